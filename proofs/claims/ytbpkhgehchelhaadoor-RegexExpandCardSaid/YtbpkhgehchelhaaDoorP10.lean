/- RegexExpand: whatever expression, text and templates, the law of templates returns true and leaves what came in alone. Conditions: none beyond the statement's own. -/
import Derived.Test.YtbpkhgehchelhaaDoorP09
set_option linter.unusedSimpArgs false
set_option linter.unusedVariables false
set_option linter.unusedSectionVars false
section
namespace Go.Rx

/-- one further, with the notes -/
def nextsN (st : List K) (x : List UInt8) (p i : Nat) (ns : List Int) : List (Nat × Nat × List Int) :=
  match st[p]? with
  | none => []
  | some k => match k.kind with
    | 0 => if i < x.length then [(p + 1, i + (dec x i).2, ns)] else []
    | 1 => [(p + 1, i, ns)]
    | 2 => [(p + 1, i, ns)]
    | 3 => [(p + 1, i, ns.set k.slot i)]
    | 4 => [(k.a, i, ns), (k.b, i, ns)]
    | 5 => [(k.a, i, ns)]
    | _ => []
def AccW (st : List K) (x : List UInt8) (r : List Int) : Nat → Nat → Nat → List Int → Prop
  | 0, _, _, _ => False
  | n + 1, p, i, ns => (∃ k, st[p]? = some k ∧ 6 ≤ k.kind ∧ r = ns) ∨ ∃ d ∈ nextsN st x p i ns, AccW st x r n d.1 d.2.1 d.2.2
theorem frm_acc {st : List K} {x : List UInt8} : ∀ (n p i : Nat) (ns : List Int) (sn : List Bool) (l : List Int) (s : List Bool), i ≤ x.length → frm st x n p i ns sn = (some l, s) → AccW st x l n p i ns
  | 0, p, i, ns, sn, l, s, _, h => by simp [frm] at h
  | n + 1, p, i, ns, sn, l, s, hi, h => by
    rw [frm] at h
    split at h
    · simp at h
    · simp only at h
      rcases hk : st[p]? with _ | k
      · rw [hk] at h; simp at h
      · rw [hk] at h
        simp only at h
        have go : ∀ (p' i' : Nat) (ns' : List Int) (sn' : List Bool) (s' : List Bool), i' ≤ x.length → (p', i', ns') ∈ nextsN st x p i ns → frm st x n p' i' ns' sn' = (some l, s') → AccW st x l (n + 1) p i ns :=
          fun p' i' ns' sn' s' hi' hm hf => .inr ⟨_, hm, frm_acc n p' i' ns' sn' l s' hi' hf⟩
        unfold nextsN at go
        rw [hk] at go
        obtain ⟨kd, kl, kn, ks, ka, kb⟩ := k
        simp only at h go
        match kd, h, go, hk with
        | 0, h, go, hk =>
          simp only at h go
          split at h
          · simp at h
          · rename_i hne
            have hlt : i < x.length := by omega
            split at h
            · exact go _ _ _ _ _ (dec_le hlt) (by rw [if_pos hlt]; simp) h
            · simp at h
        | 1, h, go, hk =>
          simp only at h go
          split at h
          · simp at h
          · exact go _ _ _ _ _ hi (by simp) h
        | 2, h, go, hk =>
          simp only at h go
          split at h
          · simp at h
          · exact go _ _ _ _ _ hi (by simp) h
        | 3, h, go, hk => exact go _ _ _ _ _ hi (by simp) h
        | 4, h, go, hk =>
          simp only at h go
          rcases hf : frm st x n ka i ns (sn.set (p * (x.length + 1) + i) true) with ⟨_ | l', s'⟩
          · rw [hf] at h
            exact go _ _ _ _ _ hi (by simp) h
          · rw [hf] at h
            simp only [Prod.mk.injEq, Option.some.injEq] at h
            obtain ⟨rfl, rfl⟩ := h
            exact go _ _ _ _ _ hi (by simp) hf
        | 5, h, go, hk => exact go _ _ _ _ _ hi (by simp) h
        | m + 6, h, go, hk =>
          simp only at h
          split at h
          · simp at h
          · simp only [Prod.mk.injEq, Option.some.injEq] at h
            exact .inl ⟨_, hk, by simp, h.1.symm⟩

abbrev Cf := Nat × List Int
/-- code c of size n keeps to R -/
structure Fw (x : List UInt8) (c : Nat → List K) (n : Nat) (R : Cf → Cf → Prop) : Prop where
  len : ∀ p, (c p).length = n
  fwd : ∀ A B N i ns r, i ≤ x.length → AccW (A ++ (c A.length ++ B)) x r N A.length i ns → ∃ j ns' M, R (i, ns) (j, ns') ∧ M ≤ N ∧ j ≤ x.length ∧ AccW (A ++ (c A.length ++ B)) x r M (A.length + n) j ns'
/-- there and there on -/
structure Pre (R : Cf → Cf → Prop) : Prop where
  rfl : ∀ a, R a a
  trans : ∀ {a b c}, R a b → R b c → R a c
section
variable {x : List UInt8} {c d : Nat → List K} {n n' : Nat} {R : Cf → Cf → Prop}
theorem Fw.fwd' (h : Fw x c n R) (A B : List K) {st : List K} {p N i : Nat} {ns r : List Int} (e : st = A ++ (c p ++ B)) (hp : A.length = p) (hi : i ≤ x.length)
    (ha : AccW st x r N p i ns) : ∃ j ns' M, R (i, ns) (j, ns') ∧ M ≤ N ∧ j ≤ x.length ∧ AccW st x r M (p + n) j ns' := by
  subst hp e; exact h.fwd A B N i ns r hi ha
theorem Fw.congr (h : Fw x c n R) (hc : c = d) (hn : n = n') : Fw x d n' R := by subst hc hn; exact h
theorem Fw.nil (hR : Pre R) : Fw x (fun _ => []) 0 R := ⟨fun _ => rfl, fun A B N i ns r hi h => ⟨i, ns, N, hR.rfl _, Nat.le_refl _, hi, h⟩⟩
theorem Fw.one (k : K) (hk : k.kind < 6) (hn : ∀ st p i ns, i ≤ x.length → st[p]? = some k → ∀ d ∈ nextsN st x p i ns, d.1 = p + 1 ∧ R (i, ns) d.2 ∧ d.2.1 ≤ x.length) : Fw x (fun _ => [k]) 1 R := by
  refine ⟨fun _ => rfl, fun A B N i ns r hi h => ?_⟩
  have hat : (A ++ ([k] ++ B))[A.length]? = some k := at_app A k B
  cases N with
  | zero => exact h.elim
  | succ N =>
    rcases h with ⟨k', h1, h2, _⟩ | ⟨⟨p, q, ns'⟩, hd, h⟩
    · rw [hat] at h1
      cases h1; omega
    · obtain ⟨h1, h2, h3⟩ := hn _ _ _ _ hi hat _ hd
      simp only at h1 h2 h3
      subst h1
      exact ⟨q, ns', N, h2, by omega, h3, h⟩
theorem Fw.comp (hR : Pre R) (hc : Fw x c n R) (hd : Fw x d n' R) : Fw x (fun p => c p ++ d (p + n)) (n + n') R := by
  have l1 : ∀ A : List K, (A ++ c A.length).length = A.length + n := fun A => by rw [List.length_append, hc.len]
  refine ⟨fun p => by rw [List.length_append, hc.len, hd.len], fun A B N i ns r hi h => ?_⟩
  obtain ⟨m, ms, M, h1, h2, h3, h4⟩ := hc.fwd' A (d (A.length + n) ++ B) (by simp only [List.append_assoc]) rfl hi h
  obtain ⟨j, js, M', h5, h6, h7, h8⟩ := hd.fwd' (A ++ c A.length) B (by simp only [List.append_assoc]) (l1 A) h3 h4
  exact ⟨j, js, M', hR.trans h1 h5, by omega, h7, by rw [← Nat.add_assoc]; exact h8⟩
theorem Fw.copies (hR : Pre R) (hc : Fw x c n R) : ∀ k, Fw x (copies c n k) (k * n) R
  | 0 => (Fw.nil hR).congr (by funext p; rfl) (by simp)
  | k + 1 => (hc.comp hR (hc.copies hR k)).congr (by funext p; rfl) (by rw [Nat.succ_mul]; omega)
theorem fork_accW {st : List K} {r ns : List Int} {pc a b i N : Nat} {few : Bool} (h : st[pc]? = some (forkK few a b)) (hN : AccW st x r N pc i ns) : ∃ M, M < N ∧ (AccW st x r M a i ns ∨ AccW st x r M b i ns) := by
  cases N with
  | zero => exact hN.elim
  | succ N =>
    rcases hN with ⟨k', h1, h2, _⟩ | ⟨d, hd, hN⟩
    · rw [h] at h1
      cases h1
      unfold forkK kOf at h2; cases few <;> simp at h2
    · unfold nextsN at hd
      rw [h] at hd
      cases few
      · simp only [forkK, kOf, Bool.false_eq_true, if_false, List.mem_cons, List.not_mem_nil, or_false] at hd
        rcases hd with rfl | rfl
        · exact ⟨N, by omega, .inl hN⟩
        · exact ⟨N, by omega, .inr hN⟩
      · simp only [forkK, kOf, if_true, List.mem_cons, List.not_mem_nil, or_false] at hd
        rcases hd with rfl | rfl
        · exact ⟨N, by omega, .inr hN⟩
        · exact ⟨N, by omega, .inl hN⟩
theorem jump_accW {st : List K} {r ns : List Int} {pc a i N : Nat} (h : st[pc]? = some { kOf 5 with a := a }) (hN : AccW st x r N pc i ns) : ∃ M, M < N ∧ AccW st x r M a i ns := by
  cases N with
  | zero => exact hN.elim
  | succ N =>
    rcases hN with ⟨k', h1, h2, _⟩ | ⟨d, hd, hN⟩
    · rw [h] at h1
      cases h1
      simp [kOf] at h2
    · unfold nextsN at hd
      rw [h] at hd
      simp only [kOf, List.mem_cons, List.not_mem_nil, or_false] at hd
      subst hd
      exact ⟨N, by omega, hN⟩
theorem Fw.opts (hR : Pre R) (hc : Fw x c n R) (few : Bool) : ∀ k, ∀ A B N i ns r E, E = A.length + k * (n + 1) → i ≤ x.length →
    AccW (A ++ (Rx.opts c n few E k A.length ++ B)) x r N A.length i ns → ∃ j ns' M, R (i, ns) (j, ns') ∧ M ≤ N ∧ j ≤ x.length ∧ AccW (A ++ (Rx.opts c n few E k A.length ++ B)) x r M E j ns'
  | 0, A, B, N, i, ns, r, E, hE, hi => by
    rw [Nat.zero_mul, Nat.add_zero] at hE
    subst hE
    exact fun h => ⟨i, ns, N, hR.rfl _, Nat.le_refl _, hi, h⟩
  | k + 1, A, B, N, i, ns, r, E, hE, hi => by
    rw [Nat.succ_mul] at hE
    have e1 : A ++ (Rx.opts c n few E (k + 1) A.length ++ B) = (A ++ [forkK few (A.length + 1) E]) ++ (c (A ++ [forkK few (A.length + 1) E]).length ++ (Rx.opts c n few E k (A.length + 1 + n) ++ B)) := by
      rw [Rx.opts]
      simp only [List.append_assoc, List.cons_append, List.nil_append, List.length_append, List.length_cons, List.length_nil, Nat.zero_add]
    have l1 : (A ++ [forkK few (A.length + 1) E]).length = A.length + 1 := by simp
    have e2 : A ++ (Rx.opts c n few E (k + 1) A.length ++ B) = (A ++ forkK few (A.length + 1) E :: c (A.length + 1)) ++ (Rx.opts c n few E k (A ++ forkK few (A.length + 1) E :: c (A.length + 1)).length ++ B) := by
      rw [Rx.opts]
      simp only [List.append_assoc, List.cons_append, List.length_append, List.length_cons, hc.len]
      congr 5
      omega
    have l2 : (A ++ forkK few (A.length + 1) E :: c (A.length + 1)).length = A.length + 1 + n := by simp only [List.length_append, List.length_cons, hc.len]; omega
    have hat : (A ++ (Rx.opts c n few E (k + 1) A.length ++ B))[A.length]? = some (forkK few (A.length + 1) E) := by rw [Rx.opts]; exact at_app A _ _
    intro h
    obtain ⟨M, hM, h | h⟩ := fork_accW hat h
    · obtain ⟨m, ms, M', h1, h2, h3, h4⟩ := hc.fwd' _ _ (by rw [e1, l1]) l1 hi h
      rw [e2, ← l2] at h4
      obtain ⟨j, js, M2, h6, h7, h8, h9⟩ := hc.opts hR few k _ B M' m ms r E (by rw [l2]; omega) h3 h4
      rw [e2]
      exact ⟨j, js, M2, hR.trans h1 h6, by omega, h8, h9⟩
    · exact ⟨i, ns, M, hR.rfl _, by omega, hi, h⟩
theorem Fw.optsS (hR : Pre R) (hc : Fw x c n R) (few : Bool) (k : Nat) : Fw x (fun p => Rx.opts c n few (p + k * (n + 1)) k p) (k * (n + 1)) R :=
  ⟨fun p => opts_len hc.len few _ k p, fun A B N i ns r hi h => hc.opts hR few k A B N i ns r _ rfl hi h⟩
theorem Fw.star (hR : Pre R) (hc : Fw x c n R) (few : Bool) : Fw x (fun p => forkK few (p + 1) (p + n + 2) :: (c (p + 1) ++ [{ kOf 5 with a := p }])) (n + 2) R := by
  have e1 : ∀ A B : List K, A ++ ((forkK few (A.length + 1) (A.length + n + 2) :: (c (A.length + 1) ++ [{ kOf 5 with a := A.length }])) ++ B) =
      (A ++ [forkK few (A.length + 1) (A.length + n + 2)]) ++ (c (A ++ [forkK few (A.length + 1) (A.length + n + 2)]).length ++ ({ kOf 5 with a := A.length } :: B)) := fun A B => by
    simp only [List.append_assoc, List.cons_append, List.nil_append, List.length_append, List.length_cons, List.length_nil, Nat.zero_add]
  have l1 : ∀ A : List K, (A ++ [forkK few (A.length + 1) (A.length + n + 2)]).length = A.length + 1 := fun A => by simp
  have hat : ∀ A B : List K, (A ++ ((forkK few (A.length + 1) (A.length + n + 2) :: (c (A.length + 1) ++ [{ kOf 5 with a := A.length }])) ++ B))[A.length]? = some (forkK few (A.length + 1) (A.length + n + 2)) := fun A B => at_app A _ _
  have hjt : ∀ A B : List K, (A ++ ((forkK few (A.length + 1) (A.length + n + 2) :: (c (A.length + 1) ++ [{ kOf 5 with a := A.length }])) ++ B))[A.length + 1 + n]? = some { kOf 5 with a := A.length } := fun A B => by
    have := at_app (A ++ forkK few (A.length + 1) (A.length + n + 2) :: c (A.length + 1)) { kOf 5 with a := A.length } B
    rw [show (A ++ forkK few (A.length + 1) (A.length + n + 2) :: c (A.length + 1)).length = A.length + 1 + n by simp only [List.length_append, List.length_cons, hc.len]; omega] at this
    simpa only [List.append_assoc, List.cons_append, List.nil_append] using this
  refine ⟨fun p => by simp only [List.length_cons, List.length_append, hc.len, List.length_nil], fun A B N => ?_⟩
  induction N using Nat.strongRecOn with
  | _ N ih =>
    intro i ns r hi h
    obtain ⟨M, hM, h | h⟩ := fork_accW (hat A B) h
    · obtain ⟨m, ms, M', h1, h2, h3, h4⟩ := hc.fwd' _ _ (by rw [e1, l1]) (l1 A) hi h
      obtain ⟨M2, hM2, h5⟩ := jump_accW (hjt A B) h4
      obtain ⟨j, js, M3, h6, h7, h8, h9⟩ := ih M2 (by omega) m ms r h3 h5
      exact ⟨j, js, M3, hR.trans h1 h6, by omega, h8, h9⟩
    · exact ⟨i, ns, M, hR.rfl _, by omega, hi, h⟩
theorem Fw.plus (hR : Pre R) (hc : Fw x c n R) (few : Bool) : Fw x (fun p => c p ++ [forkK few p (p + n + 1)]) (n + 1) R := by
  have e1 : ∀ A B : List K, A ++ ((c A.length ++ [forkK few A.length (A.length + n + 1)]) ++ B) = A ++ (c A.length ++ (forkK few A.length (A.length + n + 1) :: B)) := fun A B => by
    simp only [List.append_assoc, List.cons_append, List.nil_append]
  have hat : ∀ A B : List K, (A ++ ((c A.length ++ [forkK few A.length (A.length + n + 1)]) ++ B))[A.length + n]? = some (forkK few A.length (A.length + n + 1)) := fun A B => by
    have := at_app (A ++ c A.length) (forkK few A.length (A.length + n + 1)) B
    rw [List.length_append, hc.len] at this
    simpa only [List.append_assoc, List.cons_append, List.nil_append] using this
  refine ⟨fun p => by simp only [List.length_append, hc.len, List.length_cons, List.length_nil], fun A B N => ?_⟩
  induction N using Nat.strongRecOn with
  | _ N ih =>
    intro i ns r hi h
    rw [e1] at h
    obtain ⟨m, ms, M', h1, h2, h3, h4⟩ := hc.fwd _ _ _ _ _ _ hi h
    rw [← e1] at h4
    obtain ⟨M, hM, h | h⟩ := fork_accW (hat A B) h4
    · obtain ⟨j, js, M3, h6, h7, h8, h9⟩ := ih M (by omega) m ms r h3 h
      exact ⟨j, js, M3, hR.trans h1 h6, by omega, h8, h9⟩
    · exact ⟨m, ms, M, h1, by omega, h3, h⟩
theorem Fw.rep (hR : Pre R) (hc : Fw x c n R) (mn : Nat) (mx : Int) (few plus : Bool) : Fw x (repC c n mn mx few plus) (sizeR n mn mx plus) R := by
  cases plus
  · by_cases hx : mx < 0
    · refine ((hc.copies hR mn).comp hR (hc.star hR few)).congr ?_ ?_
      · funext p; unfold repC; simp [hx]
      · unfold sizeR; simp [hx]
    · refine ((hc.copies hR mn).comp hR (hc.optsS hR few (mx.toNat - mn))).congr ?_ ?_
      · funext p; unfold repC; simp [hx]
      · unfold sizeR; simp [hx]
  · exact (hc.plus hR few).congr (by funext p; unfold repC; simp) (by unfold sizeR; simp)
theorem Fw.alt (hc : Fw x c n R) (hd : Fw x d n' R) :
    Fw x (fun p => forkK false (p + 1) (p + 2 + n) :: (c (p + 1) ++ ({ kOf 5 with a := p + 2 + n + n' } :: d (p + 2 + n)))) (n + n' + 2) R := by
  generalize hF : (fun p => forkK false (p + 1) (p + 2 + n)) = F
  generalize hJ : (fun p => ({ kOf 5 with a := p + 2 + n + n' } : K)) = J
  have hF' : ∀ p, F p = forkK false (p + 1) (p + 2 + n) := fun p => by rw [← hF]
  have hJ' : ∀ p, J p = { kOf 5 with a := p + 2 + n + n' } := fun p => by rw [← hJ]
  suffices hs : Fw x (fun p => F p :: (c (p + 1) ++ (J p :: d (p + 2 + n)))) (n + n' + 2) R by
    refine hs.congr ?_ rfl
    funext p; rw [hF', hJ']
  have e1 : ∀ A B : List K, A ++ ((F A.length :: (c (A.length + 1) ++ (J A.length :: d (A.length + 2 + n)))) ++ B) = (A ++ [F A.length]) ++ (c (A ++ [F A.length]).length ++ (J A.length :: (d (A.length + 2 + n) ++ B))) := fun A B => by
    simp only [List.append_assoc, List.cons_append, List.nil_append, List.length_append, List.length_cons, List.length_nil, Nat.zero_add]
  have l1 : ∀ A : List K, (A ++ [F A.length]).length = A.length + 1 := fun A => by simp
  have l2 : ∀ A : List K, (A ++ (F A.length :: (c (A.length + 1) ++ [J A.length]))).length = A.length + 2 + n := fun A => by
    simp only [List.length_append, List.length_cons, List.length_nil, hc.len]; omega
  have e2 : ∀ A B : List K, A ++ ((F A.length :: (c (A.length + 1) ++ (J A.length :: d (A.length + 2 + n)))) ++ B) = (A ++ (F A.length :: (c (A.length + 1) ++ [J A.length]))) ++ (d (A ++ (F A.length :: (c (A.length + 1) ++ [J A.length]))).length ++ B) := fun A B => by
    rw [l2]
    simp only [List.append_assoc, List.cons_append, List.nil_append]
  have hat : ∀ A B : List K, (A ++ ((F A.length :: (c (A.length + 1) ++ (J A.length :: d (A.length + 2 + n)))) ++ B))[A.length]? = some (forkK false (A.length + 1) (A.length + 2 + n)) := fun A B => by rw [← hF']; exact at_app A _ _
  have hjt : ∀ A B : List K, (A ++ ((F A.length :: (c (A.length + 1) ++ (J A.length :: d (A.length + 2 + n)))) ++ B))[A.length + 1 + n]? = some { kOf 5 with a := A.length + 2 + n + n' } := fun A B => by
    have := at_app (A ++ F A.length :: c (A.length + 1)) (J A.length) (d (A.length + 2 + n) ++ B)
    rw [show (A ++ F A.length :: c (A.length + 1)).length = A.length + 1 + n by simp only [List.length_append, List.length_cons, hc.len]; omega] at this
    rw [← hJ']
    simpa only [List.append_assoc, List.cons_append, List.nil_append] using this
  refine ⟨fun p => by simp only [List.length_cons, List.length_append, hc.len, hd.len]; omega, fun A B N i ns r hi h => ?_⟩
  obtain ⟨M, hM, h | h⟩ := fork_accW (hat A B) h
  · obtain ⟨m, ms, M', h1, h2, h3, h4⟩ := hc.fwd' _ _ (by rw [e1, l1]) (l1 A) hi h
    obtain ⟨M2, hM2, h5⟩ := jump_accW (hjt A B) h4
    exact ⟨m, ms, M2, h1, by omega, h3, by rw [show A.length + (n + n' + 2) = A.length + 2 + n + n' by omega]; exact h5⟩
  · obtain ⟨m, ms, M', h1, h2, h3, h4⟩ := hd.fwd' _ _ (by rw [e2, l2]) (l2 A) hi h
    exact ⟨m, ms, M', h1, by omega, h3, by rw [show A.length + (n + n' + 2) = A.length + 2 + n + n' by omega]; exact h4⟩
end

/-! ### Groups within groups have greater numbers -/
mutual
def nest (lo : Nat) : T → Prop
  | .emp => True
  | .set _ _ => True
  | .bos => True
  | .eos => True
  | .grp n t => (n = 0 ∧ nest lo t) ∨ (lo < n ∧ nest n t)
  | .seq l => nestL lo l
  | .alt a b => nest lo a ∧ nest lo b
  | .rep _ _ _ _ t => nest lo t
def nestL (lo : Nat) : List T → Prop
  | [] => True
  | t :: l => nest lo t ∧ nestL lo l
end
theorem nestL_snoc {g : Nat} : ∀ (l : List T) (t : T), nestL g l → nest g t → nestL g (l ++ [t])
  | [], t, _, h => by simp [nestL, h]
  | x :: l, t, hl, h => by
    simp only [nestL] at hl
    simp only [List.cons_append, nestL]
    exact ⟨hl.1, nestL_snoc l t hl.2 h⟩
def MN (g : Nat) : M → Prop
  | .altL t => nest g t
  | .seqL acc => nestL g acc
  | _ => True
theorem parse_nest {s : List UInt8} : ∀ (n : Nat) (m : M) (i g lo : Nat) (t : T) (a g' : Nat), lo ≤ g → MN lo m → parse s n m i g = .ok (t, a, g') → g ≤ g' ∧ nest lo t
  | 0, m, i, g, lo, t, a, g', _, _, h => by cases m <;> simp [parse] at h
  | n + 1, .alt, i, g, lo, t, a, g', hl, hm, h => by
    rw [parse] at h
    rcases hp : parse s n .seq i g with e | ⟨t1, a1, g1⟩
    · rw [hp] at h; simp at h
    · rw [hp] at h
      obtain ⟨h2, h4⟩ := parse_nest n .seq i g lo t1 a1 g1 hl trivial hp
      obtain ⟨k2, k4⟩ := parse_nest n (.altL t1) a1 g1 lo t a g' (by omega) h4 h
      exact ⟨by omega, k4⟩
  | n + 1, .altL t0, i, g, lo, t, a, g', hl, hm, h => by
    rw [parse_altL] at h
    split at h
    · rcases hp : parse s n .seq (i + 1) g with e | ⟨t1, a1, g1⟩
      · rw [hp] at h; simp at h
      · rw [hp] at h
        obtain ⟨h2, h4⟩ := parse_nest n .seq (i + 1) g lo t1 a1 g1 hl trivial hp
        obtain ⟨k2, k4⟩ := parse_nest n (.altL (.alt t0 t1)) a1 g1 lo t a g' (by omega) (by simp only [MN, nest]; exact ⟨hm, h4⟩) h
        exact ⟨by omega, k4⟩
    · simp only [Except.ok.injEq, Prod.mk.injEq] at h
      obtain ⟨rfl, rfl, rfl⟩ := h
      exact ⟨Nat.le_refl _, hm⟩
  | n + 1, .seq, i, g, lo, t, a, g', hl, hm, h => by
    rw [parse] at h
    exact parse_nest n (.seqL []) i g lo t a g' hl (by simp [MN, nestL]) h
  | n + 1, .seqL acc, i, g, lo, t, a, g', hl, hm, h => by
    rw [parse_seqL] at h
    split at h
    · rcases hp : parse s n .rep i g with e | ⟨t1, a1, g1⟩
      · rw [hp] at h; simp at h
      · rw [hp] at h
        obtain ⟨h2, h4⟩ := parse_nest n .rep i g lo t1 a1 g1 hl trivial hp
        obtain ⟨k2, k4⟩ := parse_nest n (.seqL (acc ++ [t1])) a1 g1 lo t a g' (by omega) (nestL_snoc _ _ hm h4) h
        exact ⟨by omega, k4⟩
    · simp only [Except.ok.injEq, Prod.mk.injEq] at h
      obtain ⟨rfl, rfl, rfl⟩ := h
      refine ⟨Nat.le_refl _, ?_⟩
      split
      · simp [nest]
      · simp only [nest]; exact hm
  | n + 1, .rep, i, g, lo, t, a, g', hl, hm, h => by
    rw [parse_rep] at h
    rcases hp : parse s n .thing i g with e | ⟨t1, a1, g1⟩
    · rw [hp] at h; simp at h
    · rw [hp] at h
      obtain ⟨h2, h4⟩ := parse_nest n .thing i g lo t1 a1 g1 hl trivial hp
      simp only at h
      split at h
      · simp only [Except.ok.injEq, Prod.mk.injEq] at h
        obtain ⟨rfl, rfl, rfl⟩ := h
        exact ⟨h2, h4⟩
      · rcases hr : rept s a1 with e | _ | ⟨mn, mx, plus, b⟩
        · rw [hr] at h; simp at h
        · rw [hr] at h
          simp only [Except.ok.injEq, Prod.mk.injEq] at h
          obtain ⟨rfl, rfl, rfl⟩ := h
          exact ⟨h2, h4⟩
        · rw [hr] at h
          simp only at h
          split at h
          · simp only [Except.ok.injEq, Prod.mk.injEq] at h
            obtain ⟨rfl, rfl, rfl⟩ := h
            exact ⟨h2, by simp only [nest]; exact h4⟩
          · simp only [Except.ok.injEq, Prod.mk.injEq] at h
            obtain ⟨rfl, rfl, rfl⟩ := h
            exact ⟨h2, by simp only [nest]; exact h4⟩
  | n + 1, .thing, i, g, lo, t, a, g', hl, hm, h => by
    rw [parse_thing] at h
    split at h
    · split at h
      · simp only [Except.ok.injEq, Prod.mk.injEq] at h
        obtain ⟨rfl, rfl, rfl⟩ := h
        exact ⟨Nat.le_refl _, by simp [nest]⟩
      · split at h
        · simp only [Except.ok.injEq, Prod.mk.injEq] at h
          obtain ⟨rfl, rfl, rfl⟩ := h
          exact ⟨Nat.le_refl _, by simp [nest]⟩
        · split at h
          · simp only [Except.ok.injEq, Prod.mk.injEq] at h
            obtain ⟨rfl, rfl, rfl⟩ := h
            exact ⟨Nat.le_refl _, by simp [nest]⟩
          · split at h
            · rcases hc : cls s (i + (dec s i).2) with e | ⟨t1, b⟩
              · rw [hc] at h; simp at h
              · rw [hc] at h
                simp only [Except.ok.injEq, Prod.mk.injEq] at h
                obtain ⟨rfl, rfl, rfl⟩ := h
                refine ⟨Nat.le_refl _, ?_⟩
                unfold cls at hc
                simp only at hc
                split at hc
                · simp at hc
                · simp only [Except.ok.injEq, Prod.mk.injEq] at hc
                  rw [← hc.1]; simp [nest]
            · split at h
              · unfold brk at h
                split at h
                · split at h
                  · rcases hp : parse s n .alt (i + (dec s i).2 + 2) g with e | ⟨t1, a1, g1⟩
                    · rw [hp] at h; simp at h
                    · rw [hp] at h
                      simp only at h
                      split at h
                      · obtain ⟨h2, h4⟩ := parse_nest n .alt _ g lo t1 a1 g1 hl trivial hp
                        simp only [Except.ok.injEq, Prod.mk.injEq] at h
                        obtain ⟨rfl, rfl, rfl⟩ := h
                        exact ⟨h2, by simp only [nest]; exact .inl ⟨trivial, h4⟩⟩
                      · simp at h
                  · simp at h
                · rcases hp : parse s n .alt (i + (dec s i).2) (g + 1) with e | ⟨t1, a1, g1⟩
                  · rw [hp] at h; simp at h
                  · rw [hp] at h
                    simp only at h
                    split at h
                    · obtain ⟨h2, h4⟩ := parse_nest n .alt _ (g + 1) (g + 1) t1 a1 g1 (Nat.le_refl _) trivial hp
                      simp only [Except.ok.injEq, Prod.mk.injEq] at h
                      obtain ⟨rfl, rfl, rfl⟩ := h
                      exact ⟨by omega, by simp only [nest]; exact .inr ⟨by omega, h4⟩⟩
                    · simp at h
              · split at h
                · rcases he : escape s (i + (dec s i).2) with e | ⟨⟨l, neg⟩, b⟩
                  · rw [he] at h; simp at h
                  · rw [he] at h
                    simp only [Except.ok.injEq, Prod.mk.injEq] at h
                    obtain ⟨rfl, rfl, rfl⟩ := h
                    exact ⟨Nat.le_refl _, by simp [nest]⟩
                · split at h
                  · simp at h
                  · simp only [Except.ok.injEq, Prod.mk.injEq] at h
                    obtain ⟨rfl, rfl, rfl⟩ := h
                    exact ⟨Nat.le_refl _, by simp [nest]⟩
    · simp at h
theorem readP_nest {s : List UInt8} {t : T} {g : Nat} (h : readP s = .ok (t, g)) : nest 0 t := by
  unfold readP at h
  rcases hp : parse s (6 * s.length + 5) .alt 0 0 with e | ⟨t1, a1, g1⟩
  · rw [hp] at h; simp at h
  · rw [hp] at h
    simp only at h
    have h4 := (parse_nest _ .alt 0 0 0 t1 a1 g1 (Nat.le_refl _) trivial hp).2
    split at h
    · simp at h
    · simp only [Except.ok.injEq, Prod.mk.injEq] at h
      obtain ⟨rfl, rfl⟩ := h
      exact h4

/-! ### Beginnings and ends -/
def GoodG (lo : Nat) (a : Cf) : Prop := ∀ k, lo < k → 2 * k + 1 < a.2.length → a.2.getD (2 * k + 1) 0 < 0 ∨ (0 ≤ a.2.getD (2 * k) 0 ∧ a.2.getD (2 * k) 0 ≤ a.2.getD (2 * k + 1) 0 ∧ a.2.getD (2 * k + 1) 0 ≤ (a.1 : Int))
structure Rg (lo : Nat) (a b : Cf) : Prop where
  le : a.1 ≤ b.1
  len : b.2.length = a.2.length
  low : ∀ s, s < 2 * lo + 2 → b.2.getD s 0 = a.2.getD s 0
  good : GoodG lo a → GoodG lo b
theorem Rg.pre (lo : Nat) : Pre (Rg lo) :=
  ⟨fun a => ⟨Nat.le_refl _, rfl, fun _ _ => rfl, id⟩, fun h k => ⟨Nat.le_trans h.le k.le, k.len.trans h.len, fun s hs => (k.low s hs).trans (h.low s hs), fun g => k.good (h.good g)⟩⟩
theorem GoodG.up {lo : Nat} {i j : Nat} {ns : List Int} (h : GoodG lo (i, ns)) (hij : i ≤ j) : GoodG lo (j, ns) := fun k h1 h2 => by
  rcases h k h1 h2 with h3 | ⟨h3, h4, h5⟩
  · exact .inl h3
  · exact .inr ⟨h3, h4, by simp only at h5 ⊢; omega⟩
theorem Rg.on {lo i j : Nat} {ns : List Int} (hij : i ≤ j) : Rg lo (i, ns) (j, ns) := ⟨hij, rfl, fun _ _ => rfl, fun g => g.up hij⟩
theorem getD_set_ne {l : List Int} {s q : Nat} {v : Int} (h : s ≠ q) : (l.set s v).getD q 0 = l.getD q 0 := by
  rw [List.getD_eq_getElem?_getD, List.getElem?_set_ne h, ← List.getD_eq_getElem?_getD]
theorem getD_set_eq {l : List Int} {s : Nat} {v : Int} (h : s < l.length) : (l.set s v).getD s 0 = v := by
  rw [List.getD_eq_getElem?_getD, List.getElem?_set_self h]; rfl
theorem fw_all (x : List UInt8) (t : T) : ∀ lo, nest lo t → Fw x (codeT t) (sizeT t) (Rg lo) := by
  have one : ∀ (lo : Nat) (k : K), k.kind = 0 ∨ k.kind = 1 ∨ k.kind = 2 → Fw x (fun _ => [k]) 1 (Rg lo) := fun lo k hk => by
    refine Fw.one k (by omega) fun st p i ns hi hat d hd => ?_
    unfold nextsN at hd
    rw [hat] at hd
    rcases hk with hk | hk | hk
    · simp only [hk] at hd
      split at hd
      · rename_i hlt
        simp only [List.mem_cons, List.not_mem_nil, or_false] at hd
        subst hd
        exact ⟨rfl, Rg.on (by omega), dec_le hlt⟩
      · simp at hd
    · simp only [hk, List.mem_cons, List.not_mem_nil, or_false] at hd
      subst hd
      exact ⟨rfl, Rg.on (Nat.le_refl _), hi⟩
    · simp only [hk, List.mem_cons, List.not_mem_nil, or_false] at hd
      subst hd
      exact ⟨rfl, Rg.on (Nat.le_refl _), hi⟩
  refine T.rec (motive_1 := fun t => ∀ lo, nest lo t → Fw x (codeT t) (sizeT t) (Rg lo)) (motive_2 := fun l => ∀ lo, nestL lo l → Fw x (codeL l) (sizeL l) (Rg lo)) ?_ ?_ ?_ ?_ ?_ ?_ ?_ ?_ ?_ ?_ t
  · intro lo _; exact (Fw.nil (Rg.pre lo)).congr (by funext p; simp [codeT]) (by simp [sizeT])
  · intro l neg lo _
    exact (one lo { kOf 0 with l := l, neg := neg } (.inl rfl)).congr (by funext p; simp [codeT]) (by simp [sizeT])
  · intro lo _
    exact (one lo (kOf 1) (.inr (.inl rfl))).congr (by funext p; simp [codeT]) (by simp [sizeT])
  · intro lo _
    exact (one lo (kOf 2) (.inr (.inr rfl))).congr (by funext p; simp [codeT]) (by simp [sizeT])
  · intro n t ih lo hne
    simp only [nest] at hne
    by_cases hn : n = 0
    · rcases hne with ⟨_, h⟩ | ⟨h, _⟩
      · exact (ih lo h).congr (by funext p; simp [codeT, hn]) (by simp [sizeT, hn])
      · omega
    obtain ⟨hlo, hne⟩ : lo < n ∧ nest n t := by
      rcases hne with ⟨h, _⟩ | h
      · exact absurd h hn
      · exact h
    have hin := ih n hne
    have nt : ∀ s, Fw x (fun _ => [{ kOf 3 with slot := s }]) 1 (fun a b => b = (a.1, a.2.set s a.1)) := fun s => by
      refine Fw.one _ (by simp [kOf]) fun st p i ns hi hat d hd => ?_
      unfold nextsN at hd
      rw [hat] at hd
      simp only [kOf, List.mem_cons, List.not_mem_nil, or_false] at hd
      subst hd
      exact ⟨rfl, rfl, hi⟩
    have hce : codeT (.grp n t) = fun p => [{ kOf 3 with slot := 2 * n }] ++ (codeT t (p + 1) ++ [{ kOf 3 with slot := 2 * n + 1 }]) := by funext p; simp [codeT, hn]
    have hsz : sizeT (.grp n t) = sizeT t + 2 := by simp [sizeT, hn]
    rw [hce, hsz]
    refine ⟨fun p => by simp only [List.length_append, List.length_cons, List.length_nil, hin.len]; omega, fun A B N i ns r hi h => ?_⟩
    have l1 : (A ++ [({ kOf 3 with slot := 2 * n } : K)]).length = A.length + 1 := by simp
    have l2 : (A ++ ([({ kOf 3 with slot := 2 * n } : K)] ++ codeT t (A.length + 1))).length = A.length + 1 + sizeT t := by simp only [List.length_append, List.length_cons, List.length_nil, hin.len]; omega
    obtain ⟨i1, ns1, M1, h1, h2, h3, h4⟩ := (nt (2 * n)).fwd' A (codeT t (A.length + 1) ++ [{ kOf 3 with slot := 2 * n + 1 }] ++ B) (by simp only [List.append_assoc]) rfl hi h
    cases h1
    obtain ⟨j, js, M2, k1, k2, k3, k4⟩ := hin.fwd' (A ++ [{ kOf 3 with slot := 2 * n }]) ([{ kOf 3 with slot := 2 * n + 1 }] ++ B) (by simp only [List.append_assoc]) l1 h3 h4
    obtain ⟨j1, js1, M3, m1, m2, m3, m4⟩ := (nt (2 * n + 1)).fwd' (A ++ ([{ kOf 3 with slot := 2 * n }] ++ codeT t (A.length + 1))) B (by simp only [List.append_assoc]) l2 k3 k4
    cases m1
    refine ⟨j, _, M3, ?_, by omega, k3, by rw [show A.length + (sizeT t + 2) = A.length + 1 + sizeT t + 1 by omega]; exact m4⟩
    obtain ⟨q1, q2, q3, q4⟩ := k1
    simp only [List.length_set] at q1 q2 q3 q4
    refine ⟨q1, by simp only [List.length_set]; exact q2, fun s hs => ?_, fun hg => ?_⟩
    · simp only
      rw [getD_set_ne (by omega), q3 s (by omega), getD_set_ne (by omega)]
    · have g1 : GoodG n (i, ns.set (2 * n) (i : Int)) := fun k h1 h2 => by
        simp only [List.length_set] at h2 ⊢
        have := hg k (by omega) h2
        simp only at this
        rwa [getD_set_ne (by omega), getD_set_ne (by omega)]
      have g2 := q4 g1
      intro k h1 h2
      simp only [List.length_set] at h2 ⊢
      rcases Nat.lt_trichotomy n k with hk | hk | hk
      · have := g2 k hk h2
        simp only at this
        rwa [getD_set_ne (by omega), getD_set_ne (by omega)]
      · subst hk
        right
        rw [getD_set_eq h2, getD_set_ne (by omega), q3 _ (by omega), getD_set_eq (by omega)]
        omega
      · rw [getD_set_ne (by omega), getD_set_ne (by omega), q3 _ (by omega), q3 _ (by omega), getD_set_ne (by omega), getD_set_ne (by omega)]
        have := hg.up q1 k h1 (by simp only; omega)
        simpa only using this
  · intro l ih lo h
    simp only [nest] at h
    exact (ih lo h).congr (by funext p; simp [codeT]) (by simp [sizeT])
  · intro a b iha ihb lo h
    simp only [nest] at h
    exact ((iha lo h.1).alt (ihb lo h.2)).congr (by funext p; simp [codeT]) (by simp [sizeT])
  · intro mn mx few plus t ih lo h
    simp only [nest] at h
    exact ((ih lo h).rep (Rg.pre lo) mn mx few plus).congr (by funext p; simp [codeT]) (by simp [sizeT])
  · intro lo _; exact (Fw.nil (Rg.pre lo)).congr (by funext p; simp [codeL]) (by simp [sizeL])
  · intro t l iht ihl lo h
    simp only [nestL] at h
    exact ((iht lo h.1).comp (Rg.pre lo) (ihl lo h.2)).congr (by funext p; simp [codeL]) (by simp [sizeL])
theorem noEnd_getD : ∀ (l : List Int) (k : Nat), 2 * k + 1 < l.length → (noEnd l).getD (2 * k) 0 = (if l.getD (2 * k + 1) 0 < 0 then -1 else l.getD (2 * k) 0) ∧ (noEnd l).getD (2 * k + 1) 0 = l.getD (2 * k + 1) 0
  | [], k, h => by simp at h
  | [a], k, h => by simp at h
  | a :: b :: l, 0, h => by simp [noEnd]
  | a :: b :: l, k + 1, h => by
    have := noEnd_getD l k (by simp only [List.length_cons] at h; omega)
    rw [noEnd, show 2 * (k + 1) = 2 * k + 1 + 1 by omega, show 2 * k + 1 + 1 + 1 = (2 * k + 1) + 1 + 1 by omega]
    simpa only [List.getD_cons_succ] using this
/-- a group that is told lies in the text -/
theorem groups_in {s : List UInt8} {t : T} {g : Nat} (h : readP s = .ok (t, g)) {x : List UInt8} {l : List Int} (hl : groupsP (progT t) g x = some l) : ∀ k, 2 * k + 1 < l.length → l.getD (2 * k) 0 < 0 ∨ (0 ≤ l.getD (2 * k) 0 ∧ l.getD (2 * k) 0 ≤ l.getD (2 * k + 1) 0 ∧ l.getD (2 * k + 1) 0 ≤ (x.length : Int)) := by
  have hn := (readP_num h).1
  rw [← groupsF_eq (wf_prog hn)] at hl
  unfold groupsF at hl
  rcases hf : frm (progT t) x ((progT t).length * (x.length + 1) + 1) 0 0 (List.replicate (2 * g + 2) (-1)) (List.replicate ((progT t).length * (x.length + 1)) false) with ⟨_ | l0, s0⟩
  · rw [hf] at hl; simp at hl
  rw [hf] at hl
  simp only [Option.map_some, Option.some.injEq] at hl
  have ha := frm_acc _ _ _ _ _ _ _ (Nat.zero_le _) hf
  obtain ⟨j, ns, M, h1, h2, h3, h4⟩ := (fw_all x t 0 (readP_nest h)).fwd [] [kOf 6] _ 0 _ l0 (Nat.zero_le _) ha
  have hat : ([] ++ (codeT t ([] : List K).length ++ [kOf 6]))[([] : List K).length + sizeT t]? = some (kOf 6) := by
    have := at_app (codeT t 0) (kOf 6) []
    rw [codeT_len] at this
    simpa using this
  have he : l0 = ns := by
    cases M with
    | zero => exact h4.elim
    | succ M =>
      rcases h4 with ⟨k, _, _, h5⟩ | ⟨d, hd, _⟩
      · exact h5
      · unfold nextsN at hd
        rw [hat] at hd
        simp [kOf] at hd
  subst he
  have hg := h1.good (fun k h5 h6 => by
    left
    simp only [List.length_replicate] at h6
    simp only
    rw [List.getD_eq_getElem?_getD, List.getElem?_replicate, if_pos (by omega)]
    decide)
  intro k hk
  subst hl
  rw [noEnd_len, List.length_set, List.length_set] at hk
  obtain ⟨e1, e2⟩ := noEnd_getD ((l0.set 0 0).set 1 (x.length : Nat)) k (by rw [List.length_set, List.length_set]; exact hk)
  rw [e1, e2]
  rcases k with _ | k
  · right
    rw [getD_set_eq (by rw [List.length_set]; omega), getD_set_ne (by omega), getD_set_eq (by omega)]
    split <;> omega
  · rw [getD_set_ne (by omega), getD_set_ne (by omega), getD_set_ne (by omega), getD_set_ne (by omega)]
    rcases hg (k + 1) (by omega) hk with h6 | ⟨h6, h7, h8⟩
    · rw [if_pos h6]; left; decide
    · simp only at h6 h7 h8
      rw [if_neg (by omega)]
      right
      exact ⟨h6, h7, by omega⟩
end Go.Rx
end
section
open Go Go.Vg Go.RowKit Go.Proofs Go.Proofs.YtbpkhgehchelhaaDoor
namespace Go.Proofs.YtbpkhgehchelhaaDoor

theorem fill_set (a b : Int) {m k : Nat} (h : k < m) : (List.replicate k a ++ List.replicate (m - k) b).set k a = List.replicate (k + 1) a ++ List.replicate (m - (k + 1)) b := by
  rw [List.set_append_right _ _ (by simp), List.length_replicate, Nat.sub_self, show m - k = (m - (k + 1)) + 1 by omega, List.replicate_succ, List.set_cons_zero, List.replicate_succ', List.append_assoc]
  rfl
/-- what the reference's Groups tells -/
def GrpR (w : World) (st : List Rx.K) (g : Nat) (x : List UInt8) (r : Value) (w' : World) : Prop :=
  Ext w w' ∧ ((Rx.groupsF st g x = none ∧ r = .tuple ⟨[.slice none 0 0, .bool false]⟩) ∨ ∃ l v, Rx.groupsF st g x = some l ∧ l.length = 2 * g + 2 ∧ Owns w' w.heap.size v 3 1 (l.map inC) ∧ r = .tuple ⟨[v, .bool true]⟩)
theorem frm_len (st : List Rx.K) (x : List UInt8) : ∀ (n p i : Nat) (ns : List Int) (sn : List Bool) (l : List Int) (s : List Bool), Rx.frm st x n p i ns sn = (some l, s) → l.length = ns.length
  | 0, p, i, ns, sn, l, s, h => by simp [Rx.frm] at h
  | n + 1, p, i, ns, sn, l, s, h => by
    rw [Rx.frm] at h
    split at h
    · simp at h
    · simp only at h
      rcases hk : st[p]? with _ | ⟨kd, kl, kn, ks, ka, kb⟩
      · rw [hk] at h; simp at h
      · rw [hk] at h
        simp only at h
        match kd, h with
        | 0, h =>
          simp only at h
          split at h
          · simp at h
          · split at h
            · exact frm_len st x n _ _ _ _ _ _ h
            · simp at h
        | 1, h =>
          simp only at h
          split at h
          · simp at h
          · exact frm_len st x n _ _ _ _ _ _ h
        | 2, h =>
          simp only at h
          split at h
          · simp at h
          · exact frm_len st x n _ _ _ _ _ _ h
        | 3, h => have := frm_len st x n _ _ _ _ _ _ h; rwa [List.length_set] at this
        | 4, h =>
          simp only at h
          rcases hf : Rx.frm st x n ka i ns (sn.set (p * (x.length + 1) + i) true) with ⟨_ | l', s'⟩
          · rw [hf] at h
            exact frm_len st x n _ _ _ _ _ _ h
          · rw [hf] at h
            simp only [Prod.mk.injEq, Option.some.injEq] at h
            obtain ⟨rfl, rfl⟩ := h
            exact frm_len st x n _ _ _ _ _ _ hf
        | 5, h => exact frm_len st x n _ _ _ _ _ _ h
        | m + 6, h =>
          simp only at h
          split at h
          · simp at h
          · simp only [Prod.mk.injEq, Option.some.injEq] at h
            rw [h.1]
set_option maxHeartbeats 4000000 in
theorem groupsR_ok (w : World) (A : Nat → Prop) (pb g : Nat) (st : List Rx.K) (x : List UInt8) (hP0 : PrR w A pb st g) (hw : Rx.WfP st g) (hgl : g ≤ 100000) (hxl : x.length ≤ 100000) :
    Ret Tryd.prog 16 ⟨[ptr pb, S x]⟩ w (GrpR w st g x) := by
  have hP : PrR w (fun b => b < w.heap.size) pb st g := hP0.same fun b hb _ => ⟨rfl, hb⟩
  obtain ⟨_, ⟨pv, lvs, hbx, how, _, hpl, _⟩, hle⟩ := id hP
  have hzl : (List.zipWith sR st lvs).length = st.length := by rw [List.length_zipWith, hpl, Nat.min_self]
  refine ret_of_G Tryd.func16 rfl Tryd.ntmps16 rfl ?_
  simp only [argEnv]
  refine rn ?_
  refine sAd tb (r := ((2 * g : Nat) : Int)) (hp := wrap_i64 (n := 2 * ((g : Nat) : Int)) (by omega) (by omega)) ?_
  refine rn ?_
  refine sAd tb (r := ((2 * g + 2 : Nat) : Int)) ?_
  refine rn ?_
  refine sMkS tb (z := .int .i64 0) (bytes := 8) (m := ((2 * g + 2 : Nat) : Int)) (2 * g + 2) (fun nv W1 ho1 hs1 hx1 _ => ?_)
  have ho1' : Owns W1 w.heap.size nv 3 1 ((List.replicate 0 (-1 : Int) ++ List.replicate (2 * g + 2 - 0) (0 : Int)).map inC) := by
    have : (List.replicate 0 (-1 : Int) ++ List.replicate (2 * g + 2 - 0) (0 : Int)).map inC = (List.replicate (2 * g + 2) (Value.int .i64 0)).map fun u => [u] := by simp [inC]
    rw [this]; exact ho1
  clear ho1
  refine rn ?_
  refine (G.loop (fun k : Nat => [(0, none, ptr pb), (1, none, S x), (6, none, nv), (7, none, .int .i64 (k : Nat))]) (fun k W => Ext w W ∧ Owns W w.heap.size nv 3 1 ((List.replicate k (-1 : Int) ++ List.replicate (2 * g + 2 - k) (0 : Int)).map inC) ∧ k ≤ 2 * g + 2) (fun k => 2 * g + 2 - k) 0 (by repeat (first | exact Sub.nil _ | refine Sub.cons rfl ?_)) ⟨hx1, ho1', Nat.zero_le _⟩ ?_)
  clear ho1' hx1 hs1
  rintro k W ⟨hx, ho, hk⟩
  have hsl := ho.sli
  have hkl : ((List.replicate k (-1 : Int) ++ List.replicate (2 * g + 2 - k) (0 : Int)).map inC).length = 2 * g + 2 := by simp; omega
  refine rn ?_
  rw [hkl]
  refine rn ?_
  first | refine G.condD rfl (fun hc => ?_) (fun hc => ?_) | refine G.condN rfl (fun hc => ?_) (fun hc => ?_) | refine G.cond rfl (fun hc => ?_) (fun hc => ?_)
  · have hlt : k < 2 * g + 2 := by omega
    refine rn ?_
    refine sIa tb k ?_ (hj := fun _ => ⟨rfl, by rw [hkl]; omega⟩)
    refine rn ?_
    refine sStR tb (j := k) (vs := [.int .i64 (-1)]) ho (by rw [hkl]; omega) (fun W2 ho2 hg2 => ?_)
    refine rn ?_
    refine sAd tb (r := ((k + 1 : Nat) : Int)) ?_
    refine rn ?_
    refine G.lp (x := k) (k + 1) (by repeat (first | exact Sub.nil _ | refine Sub.cons rfl ?_)) ⟨hg2.ext0 hx, ?_, by omega⟩ (by omega)
    rw [← fill_set _ _ hlt, List.map_set]
    exact ho2
  have hke : k = 2 * g + 2 := by omega
  subst hke
  rw [Nat.sub_self, List.replicate_zero, List.append_nil] at ho
  clear hsl hkl hk hc
  have hbxW := hbx.to hx
  have howW := how.sli.to hx
  refine rn ?_
  rw [hzl]
  refine sAd tb (r := ((x.length + 1 : Nat) : Int)) ?_
  refine rn ?_
  obtain ⟨N, hN⟩ : ∃ N, N = st.length * (x.length + 1) := ⟨_, rfl⟩
  have hNl : N ≤ 2000 * 100001 := by rw [hN]; exact Nat.mul_le_mul hle (by omega)
  refine sAd tb (r := ((N : Nat) : Int)) (hp := by show IntKind.i64.wrap _ = _; rw [hN, ← Int.natCast_mul, ← hN]; exact wrap_i64 (by omega) (by omega)) ?_
  refine rn ?_
  refine sMkS tb (z := .bool false) (bytes := 1) (m := ((N : Nat) : Int)) N (fun sv W3 ho3 hs3 hx3 hob3 => ?_)
  have hx03 := hx.trans hx3
  have ho3' : Owns W3 W.heap.size sv 4 1 ((List.replicate N false).map bC) := by
    have : (List.replicate N false).map bC = (List.replicate N (Value.bool false)).map fun u => [u] := by simp [bC]
    rw [this]; exact ho3
  have hbx3 := hbxW.to hx3
  refine rn ?_
  obtain ⟨sa, sc, rfl, -⟩ := ho3'.sli.len
  refine sBd tb ?_
  refine rn ?_
  refine sBox (us := [ptr pb, S x, .slice sa ((List.replicate N false).map bC).length sc]) (fun W4 hb4 hs4 hx4 => ?_) (hv := rfl)
  obtain ⟨sv, hsv⟩ : ∃ sv, sv = Value.slice sa ((List.replicate N false).map bC).length sc := ⟨_, rfl⟩
  rw [← hsv] at hb4 ho3 ho3' hob3
  have hx04 := hx03.trans hx4
  have hwW := hx.size
  have hT : TryR W4 W3.heap.size pb x sv (List.replicate N false) := ⟨hb4, (ho3'.to hx4).mono (Nat.zero_le _), fun e => by rw [hob3] at e; have := Option.some.inj e; omega⟩
  have hP4 := hP.to hx04
  have hu : Rx.unsn (List.replicate N false) < N + 1 := by
    unfold Rx.unsn
    rw [List.count_replicate_self]
    omega
  have hno : Owns W4 0 nv 3 1 ((List.replicate (2 * g + 2) (-1 : Int)).map inC) := ((ho.to hx3).to hx4).mono (Nat.zero_le _)
  have hnn : ∀ b, nv.ownBlock = some b → sv.ownBlock ≠ some b := fun b e e' => by
    have h1 := (ho.lt b e).2
    rw [hob3] at e'
    have := Option.some.inj e'
    omega
  have hgf : Rx.groupsF st g x = ((Rx.frm st x (N + 1) 0 0 (List.replicate (2 * g + 2) (-1)) (List.replicate N false)).1).map fun l => Rx.noEnd ((l.set 0 0).set 1 (x.length : Nat)) := by unfold Rx.groupsF; rw [hN]
  refine rn ?_
  refine sCall c41 (from_ok W3.heap.size pb g x sv st (fun b => b < w.heap.size) hw (fun b hb e => by rw [hob3] at e; have := Option.some.inj e; omega) hxl hgl (N + 1) 0 0 _ _ W4 nv hP4 hT (by rw [List.length_replicate, hN]) (by rw [List.length_replicate]) hno hnn hw.pos (Nat.zero_le _) hu) ?_
  rintro r W5 ⟨hk5, hT5, hres⟩
  have hx5 : Ext w W5 := ⟨hk5.os.trans hx04.os, hk5.tape.trans hx04.tape, hk5.output.trans hx04.output, Nat.le_trans hx04.size hk5.size, fun b hb => (hk5.same b (Nat.lt_of_lt_of_le hb hx04.size) (fun e => by rw [hob3] at e; have := Option.some.inj e; omega)).trans (hx04.block b hb)⟩
  have hlen := frm_len st x (N + 1) 0 0 (List.replicate (2 * g + 2) (-1)) (List.replicate N false)
  rcases hf : Rx.frm st x (N + 1) 0 0 (List.replicate (2 * g + 2) (-1)) (List.replicate N false) with ⟨_ | l0, s0⟩
  · rw [hf] at hres hgf
    simp only [Option.map_none] at hres hgf
    rcases hres with ⟨_, v, rfl⟩ | ⟨l, v, hl, _⟩
    rotate_left
    · cases hl
    refine rn ?_
    refine G.ret2 rfl rfl rfl rfl rfl ?_
    exact ⟨hx5, .inl ⟨hgf, rfl⟩⟩
  have hll := hlen l0 s0 hf
  rw [List.length_replicate] at hll
  clear hlen
  rw [hf] at hres hgf
  simp only [Option.map_some] at hres hgf
  rcases hres with ⟨hl, _⟩ | ⟨l', v, hl, hov, _, rfl⟩
  · cases hl
  cases hl
  clear hf hT5 hk5 hT hP4 hu hno hnn hb4 ho3 ho3' hbx3 hbxW howW
  refine rn ?_
  refine sBs' tb ([] : List (List Value)) (fun us W6 ho6 hs6 hx6 => ?_)
  refine rn ?_
  refine sApp tb ho6 (hov.to hx6).sli (fun ov W7 ho7 hg7 => ?_) (h1 := int_one) (hb := by simp only [List.length_map, List.length_nil]; omega) (hl := by simp only [List.length_map, List.length_nil]; omega)
  have hx7 : Ext W5 W7 := hg7.below _ hx6
  have hx07 := hx5.trans hx7
  rw [List.nil_append] at ho7
  replace ho7 := ho7.mono hx5.size
  have hl7 : (l0.map inC).length = 2 * g + 2 := by rw [List.length_map, hll]
  have hsl7 := ho7.sli
  clear ho6 hg7 hx6 hs6 hov
  refine rn ?_
  refine sIa tb 0 ?_ (hj := fun _ => ⟨rfl, by rw [hl7]; omega⟩)
  refine rn ?_
  refine sStR tb (j := 0) (vs := [.int .i64 0]) ho7 (by rw [hl7]; omega) (fun W8 ho8 hg8 => ?_)
  have hx08 : Ext w W8 := hg8.ext0 hx07
  clear ho7 hsl7 hg8
  have hsl8 := ho8.sli
  refine rn ?_
  refine sIa tb 1 ?_ (hj := fun _ => ⟨rfl, by rw [List.length_set, hl7]; omega⟩)
  refine rn ?_
  refine sStR tb (j := 1) (vs := [.int .i64 (x.length : Nat)]) ho8 (by rw [List.length_set, hl7]; omega) (fun W9 ho9 hg9 => ?_)
  have hx09 : Ext w W9 := hg9.ext0 hx08
  clear ho8 hsl8 hg9 hx08 hx07 hx7
  obtain ⟨l, hle'⟩ : ∃ l, l = (l0.set 0 0).set 1 ((x.length : Nat) : Int) := ⟨_, rfl⟩
  have ho9' : Owns W9 w.heap.size ov 3 1 ((noEndK 1 l).map inC) := by
    have h1 := (noEndK_step 0 l (by rw [hle', List.length_set, List.length_set, hll]; omega)).2
    have h2 : l.getD (2 * 0 + 1) 0 = ((x.length : Nat) : Int) := by rw [hle']; exact Rx.getD_set_eq (by rw [List.length_set, hll]; omega)
    rw [h2, if_neg (by omega)] at h1
    rw [h1, show noEndK 0 l = l from rfl, hle', List.map_set, List.map_set]
    exact ho9
  have hll' : l.length = 2 * g + 2 := by rw [hle', List.length_set, List.length_set, hll]
  rw [← hle'] at hgf
  clear ho9 hle'
  refine rn ?_
  refine (G.loop (fun k : Nat => [(11, none, ov), (12, none, .int .i64 ((2 * k : Nat) : Int))]) (fun k W => Ext w W ∧ Owns W w.heap.size ov 3 1 ((noEndK k l).map inC) ∧ k ≤ g + 1) (fun k => g + 1 - k) 1 (by repeat (first | exact Sub.nil _ | refine Sub.cons rfl ?_)) ⟨hx09, ho9', by omega⟩ ?_)
  clear ho9' hx09 hx5
  rintro k W ⟨hx, ho, hk⟩
  have hsl := ho.sli
  have hkl : ((noEndK k l).map inC).length = 2 * g + 2 := by rw [List.length_map, noEndK_len, hll']
  refine rn ?_
  refine sAd tb (r := ((2 * k + 1 : Nat) : Int)) ?_
  refine rn ?_
  rw [hkl]
  refine rn ?_
  first | refine G.condD rfl (fun hc => ?_) (fun hc => ?_) | refine G.condN rfl (fun hc => ?_) (fun hc => ?_) | refine G.cond rfl (fun hc => ?_) (fun hc => ?_)
  · have hlt : 2 * k + 2 ≤ l.length := by omega
    obtain ⟨h1, h2⟩ := noEndK_step k l hlt
    have hget : ((noEndK k l).map inC)[2 * k + 1]? = some [.int .i64 (l.getD (2 * k + 1) 0)] := by
      rw [← h1, List.getElem?_map, List.getD_eq_getElem?_getD, List.getElem?_eq_getElem (by rw [noEndK_len]; omega)]; rfl
    refine rn ?_
    refine sAd tb (r := ((2 * k + 1 : Nat) : Int)) ?_
    refine rn ?_
    refine sIa tb (2 * k + 1) ?_ (hj := fun _ => ⟨rfl, by rw [hkl]; omega⟩)
    refine rn ?_
    first | refine G.condD rfl (fun hc => ?_) (fun hc => ?_) | refine G.condN rfl (fun hc => ?_) (fun hc => ?_) | refine G.cond rfl (fun hc => ?_) (fun hc => ?_)
    · have hneg : l.getD (2 * k + 1) 0 < 0 := by simpa using hc
      rw [if_pos hneg] at h2
      refine rn ?_
      refine sIa tb (2 * k) ?_ (hj := fun _ => ⟨rfl, by rw [hkl]; omega⟩)
      refine rn ?_
      refine sStR tb (j := 2 * k) (vs := [.int .i64 (-1)]) ho (by rw [hkl]; omega) (fun W2 ho2 hg2 => ?_)
      refine rn ?_
      refine sAd tb (r := ((2 * (k + 1) : Nat) : Int)) ?_
      refine rn ?_
      refine G.lp (x := k) (k + 1) (by repeat (first | exact Sub.nil _ | refine Sub.cons rfl ?_)) ⟨hg2.ext0 hx, ?_, by omega⟩ (by omega)
      rw [h2, List.map_set]
      exact ho2
    · have hneg : ¬ l.getD (2 * k + 1) 0 < 0 := by simpa using hc
      rw [if_neg hneg] at h2
      refine rn ?_
      refine sAd tb (r := ((2 * (k + 1) : Nat) : Int)) ?_
      refine rn ?_
      refine G.lp (x := k) (k + 1) (by repeat (first | exact Sub.nil _ | refine Sub.cons rfl ?_)) ⟨hx, ?_, by omega⟩ (by omega)
      rw [h2]
      exact ho
  · have hke : g + 1 ≤ k := by omega
    refine rn ?_
    refine G.ret2 rfl rfl rfl rfl rfl ?_
    refine ⟨hx, .inr ⟨Rx.noEnd l, ov, hgf, by rw [Rx.noEnd_len, hll'], ?_, rfl⟩⟩
    rw [← noEndK_all k l (by omega)]; exact ho
/-- a compiled expression of the reference -/
structure ExR (w : World) (pb : Nat) (s : List UInt8) (t : Rx.T) (g : Nat) : Prop where
  pr : ∃ A, PrR w A pb (Rx.progT (Rx.rot t)) g
  cp : Rx.comp s = .ok (t, g)
theorem ExR.to {w w' : World} {pb : Nat} {s : List UInt8} {t : Rx.T} {g : Nat} (h : ExR w pb s t g) (hx : Ext w w') : ExR w' pb s t g := ⟨h.pr.imp fun _ h => h.to hx, h.cp⟩
/-- what the reference's Groups tells, of an expression -/
theorem groupsE_ok (w : World) (pb g : Nat) (s : List UInt8) (t : Rx.T) (x : List UInt8) (h : ExR w pb s t g) (hxl : x.length ≤ 100000) :
    Ret Tryd.prog 16 ⟨[ptr pb, S x]⟩ w fun r w' => Ext w w' ∧ ((Rx.groupsP (Rx.progT t) g x = none ∧ r = .tuple ⟨[.slice none 0 0, .bool false]⟩) ∨ ∃ l v, Rx.groupsP (Rx.progT t) g x = some l ∧ l.length = 2 * g + 2 ∧ Owns w' w.heap.size v 3 1 (l.map inC) ∧ r = .tuple ⟨[v, .bool true]⟩) := by
  obtain ⟨⟨A, hP⟩, hcp⟩ := h
  obtain ⟨hr, hl, _⟩ := Rx.comp_ok hcp
  have hn := Rx.readP_num hr
  have := groupsR_ok w A pb g _ x hP (Rx.wf_prog ((Rx.rot_ok t).2.2 g hn.1)) (by omega) hxl
  unfold GrpR at this
  rw [Rx.groupsF_rot hr] at this
  exact this
/-- what the reference's Compile tells, in other words -/
def ComR (s : List UInt8) (w : World) (r : Value) (w' : World) : Prop :=
  Ext w w' ∧ ((∃ t g pb, Rx.comp s = .ok (t, g) ∧ ExR w' pb s t g ∧ r = .tuple ⟨[ptr pb, .int .i64 0, .int .i64 0]⟩) ∨
    (∃ e f, Rx.comp s = .error (e, f) ∧ r = .tuple ⟨[.pointer none, .int .i64 (e : Nat), .int .i64 (if f = 1 then 8 else 9)]⟩))
theorem compE_ok (w : World) (s : List UInt8) (hl : s.length ≤ 9223372036854775807) : Ret Tryd.prog 12 ⟨[S s]⟩ w (ComR s w) :=
  Calls.mono (compileR_ok w s hl) fun r w' ⟨v, e, h⟩ => ⟨v, e, by
    obtain ⟨hx, h⟩ := h
    refine ⟨hx, ?_⟩
    rcases h with ⟨t, g, pb, h1, h2, h3⟩ | h
    · exact .inl ⟨t, g, pb, h1, ⟨⟨_, h2⟩, h1⟩, h3⟩
    · exact .inr h⟩
end Go.Proofs.YtbpkhgehchelhaaDoor
end
section
open Go Go.Vg Go.RowKit Go.Proofs Go.Proofs.YtbpkhgehchelhaaDoor
namespace Go.Proofs.YtbpkhgehchelhaaDoor

/-- a compiled expression that may be refused for its size -/
structure MayM (w : World) (p : Option Addr) (e : Int) (m : List UInt8 → Bool) : Prop where
  or_ : e = 0 ∨ e = 9
  run : e = 0 → ∀ W, Ext w W → ∀ x : List UInt8, x.length ≤ 60 → Ret Tryd.prog 18 ⟨[.pointer p, S x]⟩ W fun r w' => r = .bool (m x) ∧ Ext W w'
theorem MayM.to {w w' : World} {p : Option Addr} {e : Int} {m : List UInt8 → Bool} (h : MayM w p e m) (hx : Ext w w') : MayM w' p e m := ⟨h.or_, fun he W hW => h.run he W (hx.trans hW)⟩
end Go.Proofs.YtbpkhgehchelhaaDoor
end
section
open Go Go.Vg Go.RowKit Go.Proofs Go.Proofs.YtbpkhgehchelhaaDoor
namespace Go.Proofs.YtbpkhgehchelhaaDoor
namespace Ref3
def digF : Nat → Nat → List UInt8
  | 0, n => [byI (48 + (n : Int))]
  | f + 1, n => if n < 10 then [byI (48 + (n : Int))] else digF f (n / 10) ++ [byI (48 + ((n % 10 : Nat) : Int))]
theorem digF_len : ∀ (f n : Nat), (digF f n).length ≤ f + 1
  | 0, n => by simp [digF]
  | f + 1, n => by
    simp only [digF]
    split
    · simp
    · have := digF_len f (n / 10)
      rw [List.length_append, List.length_cons, List.length_nil]; omega
/-- a number in decimal digits, at most so many -/
def decN (n : Int) : List UInt8 := if n < 0 then 45 :: digF 19 n.natAbs else digF 19 n.natAbs
theorem plain_step (n : Int) (D : List UInt8) (w : World) (h1 : -9223372036854775808 ≤ n) (h2 : n ≤ 9223372036854775807) (hl : D.length ≤ 100) (hD : 10 ≤ n.natAbs → ∀ w : World, Ret Tryd.prog 82 ⟨[.int .i64 (n.tdiv 10)]⟩ w fun r w' => r = S D ∧ Ext w w') :
    Ret Tryd.prog 82 ⟨[.int .i64 n]⟩ w fun r w' => r = S (if n.natAbs < 10 then [byI (48 + (n.natAbs : Int))] else D ++ [byI (48 + ((n.natAbs % 10 : Nat) : Int))]) ∧ Ext w w' := by
  have ha : (n.tmod 10).natAbs = n.natAbs % 10 := Int.natAbs_tmod n 10
  have hb : (n.tdiv 10).natAbs = n.natAbs / 10 := Int.natAbs_tdiv n 10
  obtain ⟨r, hr⟩ : ∃ r, n.tmod 10 = r := ⟨_, rfl⟩
  obtain ⟨q, hq⟩ : ∃ q, n.tdiv 10 = q := ⟨_, rfl⟩
  rw [hr] at ha
  rw [hq] at hb hD
  have hr9 := Nat.mod_lt n.natAbs (show 0 < 10 by decide)
  refine ret_of_G Tryd.func82 rfl Tryd.ntmps82 rfl ?_
  simp only [argEnv]
  refine rn ?_
  refine sRem hr ?_
  refine rn ?_
  refine G.join (fun _ : Unit => [(0, none, .int .i64 n), (3, none, .int .i64 ((n.natAbs % 10 : Nat) : Int))]) (fun _ w' => w' = w) ?_ ?_
  · rintro _ w_ rfl
    refine rn ?_
    refine sAd tb ?_
    refine sCb tb ?_
    refine sBs' tb (bysC [byI (48 + ((n.natAbs % 10 : Nat) : Int))]) ?_ (hkl := bysC_k _)
    intro v1 w1 ho1 hs1 hx1
    refine sByS tb ho1.sli ?_
    refine rn ?_
    refine sQuo (r := q) (by rw [hq]; exact wrap_i64 (by omega) (by omega)) ?_
    refine rn ?_
    first | refine G.condD rfl (fun hc => ?_) (fun hc => ?_) | refine G.condN rfl (fun hc => ?_) (fun hc => ?_) | refine G.cond rfl (fun hc => ?_) (fun hc => ?_)
    · have : n.natAbs < 10 := by omega
      rw [if_pos this]
      refine rn ?_
      refine G.ret1 rfl rfl rfl rfl ?_
      exact ⟨by rw [Nat.mod_eq_of_lt this], hx1⟩
    · have : ¬ n.natAbs < 10 := by omega
      rw [if_neg this]
      refine rn ?_
      refine sQuo (r := q) (by rw [hq]; exact wrap_i64 (by omega) (by omega)) ?_
      refine sCall c82 (hD (by omega) w1) ?_
      rintro _ w2 ⟨rfl, hx2⟩
      refine rn ?_
      refine sCat tb ?_
      refine rn ?_
      refine G.ret1 rfl rfl rfl rfl ?_
      exact ⟨rfl, hx1.trans hx2⟩
  · first | refine G.condD rfl (fun hc => ?_) (fun hc => ?_) | refine G.condN rfl (fun hc => ?_) (fun hc => ?_) | refine G.cond rfl (fun hc => ?_) (fun hc => ?_)
    · refine rn ?_
      refine GL.cons (Step.neg (r := ((n.natAbs % 10 : Nat) : Int)) rfl (Op1.of rfl (by first | exact fun _ => rfl | exact fun h => h | exact fun h => bL h | exact fun h => bL (bL h) | exact fun h => bL (bL (bL h)))) ((wrap_i64 (n := 0 - r) (by omega) (by omega)).trans (by omega)) rfl ?_)
      refine rn ?_
      exact G.met () (by repeat (first | exact Sub.nil _ | refine Sub.cons rfl ?_)) rfl
    · obtain rfl : r = ((n.natAbs % 10 : Nat) : Int) := by omega
      refine rn ?_
      exact G.met () (by repeat (first | exact Sub.nil _ | refine Sub.cons rfl ?_)) rfl
theorem plain_ok : ∀ (f : Nat) (n : Int), n.natAbs < 10 ^ (f + 1) → -9223372036854775808 ≤ n → n ≤ 9223372036854775807 → f ≤ 30 → ∀ w : World,
    Ret Tryd.prog 82 ⟨[.int .i64 n]⟩ w fun r w' => r = S (digF f n.natAbs) ∧ Ext w w'
  | 0, n, h, h1, h2, _, w => by
    have := plain_step n [] w h1 h2 (by simp) (fun h' => by omega)
    rw [if_pos (by omega)] at this
    exact this
  | f + 1, n, h, h1, h2, hf, w => by
    have hb : (n.tdiv 10).natAbs = n.natAbs / 10 := Int.natAbs_tdiv n 10
    have hl := digF_len f (n.natAbs / 10)
    have := plain_step n (digF f (n.natAbs / 10)) w h1 h2 (by omega) (fun _ w' => by
      have := plain_ok f (n.tdiv 10) (by rw [hb]; rw [Nat.pow_succ] at h; exact Nat.div_lt_of_lt_mul (by rw [Nat.mul_comm]; exact h)) (by omega) (by omega) (by omega) w'
      rw [hb] at this; exact this)
    exact this
theorem refIntText_ok (n : Int) (w : World) (h1 : -9223372036854775808 ≤ n) (h2 : n ≤ 9223372036854775807) : Ret Tryd.prog 71 ⟨[.int .i64 n]⟩ w fun r w' => r = S (decN n) ∧ Ext w w' := by
  have hp := plain_ok 19 n (by omega) h1 h2 (by omega)
  have hl := digF_len 19 n.natAbs
  refine ret_of_G Tryd.func71 rfl Tryd.ntmps71 rfl ?_
  simp only [argEnv]
  refine rn ?_
  first | refine G.condD rfl (fun hc => ?_) (fun hc => ?_) | refine G.condN rfl (fun hc => ?_) (fun hc => ?_) | refine G.cond rfl (fun hc => ?_) (fun hc => ?_)
  · refine rn ?_
    refine sCall c82 (hp w) ?_
    rintro _ w1 ⟨rfl, hx1⟩
    refine sCat tb ?_
    refine rn ?_
    refine G.ret1 rfl rfl rfl rfl ?_
    exact ⟨by unfold decN; rw [if_pos hc]; rfl, hx1⟩
  · refine rn ?_
    refine sCall c82 (hp w) ?_
    rintro _ w1 ⟨rfl, hx1⟩
    refine rn ?_
    refine G.ret1 rfl rfl rfl rfl ?_
    exact ⟨by unfold decN; rw [if_neg hc], hx1⟩

theorem digit_ok (c : UInt8) (w : World) : Ret Tryd.prog 70 ⟨[U c]⟩ w fun r w' => r = .bool (decide (48 ≤ c.toNat) && decide (c.toNat ≤ 57)) ∧ w' = w := by
  refine ret_of_G Tryd.func70 rfl Tryd.ntmps70 rfl ?_
  simp only [argEnv]
  refine rn ?_
  refine G.ret1 rfl rfl rfl rfl ?_
  refine ⟨?_, rfl⟩
  congr 2 <;> exact decide_eq_decide.2 (by omega)
/-- the number that some digits tell -/
def numL : List UInt8 → Nat → Nat
  | [], n => n
  | c :: l, n => numL l (10 * n + (c.toNat - 48))
theorem numL_snoc : ∀ (l : List UInt8) (c : UInt8) (n : Nat), numL (l ++ [c]) n = 10 * numL l n + (c.toNat - 48)
  | [], c, n => rfl
  | d :: l, c, n => numL_snoc l c _
theorem numL_lt : ∀ (l : List UInt8) (n : Nat), (∀ c ∈ l, c.toNat ≤ 57) → numL l n < (n + 1) * 10 ^ l.length
  | [], n, _ => by simp [numL]
  | d :: l, n, h => by
    have h1 := numL_lt l (10 * n + (d.toNat - 48)) fun c hc => h c (List.mem_cons_of_mem _ hc)
    have h2 := h d (List.mem_cons_self ..)
    rw [numL, List.length_cons, Nat.pow_succ]
    have : (10 * n + (d.toNat - 48) + 1) * 10 ^ l.length ≤ (10 * (n + 1)) * 10 ^ l.length := Nat.mul_le_mul_right _ (by omega)
    have e : (n + 1) * (10 ^ l.length * 10) = (10 * (n + 1)) * 10 ^ l.length := by rw [Nat.mul_comm (10 ^ l.length) 10, ← Nat.mul_assoc, Nat.mul_comm (n + 1) 10]
    omega
def allD (s : List UInt8) : Prop := ∀ c ∈ s, 48 ≤ c.toNat ∧ c.toNat ≤ 57
/-- what Int tells of digits: of few, the number, if it is written so -/
def IntR (s : List UInt8) (n e : Int) : Prop := s.length ≤ 3 → (s ≠ [] ∧ digF 19 (numL s 0) = s ∧ e = 0 ∧ n = (numL s 0 : Nat)) ∨ (¬ (s ≠ [] ∧ digF 19 (numL s 0) = s) ∧ e = 8)
set_option maxHeartbeats 2000000 in
theorem int_ok (s : List UInt8) (w : World) (hd : allD s) (hs : s.length ≤ 1000) : Ret Tryd.prog 52 ⟨[S s]⟩ w fun r w' => ∃ n e : Int, r = .tuple ⟨[.int .i64 n, .int .i64 e]⟩ ∧ IntR s n e ∧ Ext w w' := by
  have hs0 : ∀ {c : Bool}, c = true → c = decide (0 < s.length) → 0 < s.length := fun {c} h e => by rw [e] at h; simpa using h
  refine ret_of_G Tryd.func52 rfl Tryd.ntmps52 rfl ?_
  simp only [argEnv]
  refine rn ?_
  refine sBs tb 0 ?_ (hj := fun hc => ⟨rfl, by have hc : decide ((0 : Int) < (s.length : Int)) = true := hc; simp only [decide_eq_true_eq] at hc; omega⟩)
  refine rn ?_
  have hneg : (decide ((0 : Int) < (s.length : Int)) && decide (((s.getD 0 0).toNat : Int) = 45)) = false := by
    rcases s with _ | ⟨c, l⟩
    · rfl
    · have := (hd c (List.mem_cons_self ..)).1
      rw [show decide ((((c :: l).getD 0 0).toNat : Int) = 45) = false from decide_eq_false (by simp only [List.getD_cons_zero]; omega), Bool.and_false]
  rw [hneg]
  refine rn ?_
  refine (G.loop (fun k : Nat => [(0, none, S s), (4, none, S s), (5, none, .bool false), (6, none, .int .i64 (-((numL (s.take k) 0 : Nat) : Int))), (7, none, .int .i64 (k : Nat))]) (fun k W => W = w ∧ k ≤ s.length ∧ k ≤ 19 ∧ numL (s.take k) 0 ≤ 9223372036854775808) (fun k => s.length - k) 0 (by repeat (first | exact Sub.nil _ | refine Sub.cons rfl ?_)) ⟨rfl, Nat.zero_le _, Nat.zero_le _, by simp [numL]⟩ ?_)
  rintro k _ ⟨rfl, hk, hk2, hb⟩
  have hbd := numL_lt (s.take k) 0 (fun c hc => (hd c (List.mem_of_mem_take hc)).2)
  rw [List.length_take, Nat.min_eq_left hk, Nat.zero_add, Nat.one_mul] at hbd
  have hsml : s.length ≤ 3 → numL (s.take k) 0 < 1000 := fun h => by
    have : 10 ^ k ≤ 10 ^ 3 := Nat.pow_le_pow_right (by omega) (by omega)
    omega
  refine rn ?_
  first | refine G.condD rfl (fun hc => ?_) (fun hc => ?_) | refine G.condN rfl (fun hc => ?_) (fun hc => ?_) | refine G.cond rfl (fun hc => ?_) (fun hc => ?_)
  · have hlt : k < s.length := by omega
    have htk : s.take (k + 1) = s.take k ++ [s.getD k 0] := by rw [List.take_succ_eq_append_getElem hlt, List.getD_eq_getElem?_getD, List.getElem?_eq_getElem hlt]; rfl
    have hdk := hd (s.getD k 0) (by rw [List.getD_eq_getElem?_getD, List.getElem?_eq_getElem hlt]; exact List.getElem_mem hlt)
    have hsn := numL_snoc (s.take k) (s.getD k 0) 0
    rw [← htk] at hsn
    refine rn ?_
    refine sBs tb k ?_
    refine rn ?_
    refine sCall c70 (digit_ok (s.getD k 0) _) ?_
    rintro _ _ ⟨rfl, rfl⟩
    rw [show (decide (48 ≤ (s.getD k 0).toNat) && decide ((s.getD k 0).toNat ≤ 57)) = true by rw [decide_eq_true hdk.1, decide_eq_true hdk.2]; rfl]
    refine rn ?_
    first | refine G.condD rfl (fun hc => ?_) (fun hc => ?_) | refine G.condN rfl (fun hc => ?_) (fun hc => ?_) | refine G.cond rfl (fun hc => ?_) (fun hc => ?_)
    · have h19 : 19 ≤ k := by
        have : (19 : Int) ≤ k := by simpa using hc
        omega
      refine rn ?_
      refine G.ret2 rfl rfl rfl rfl rfl ?_
      exact ⟨0, 8, rfl, fun h => by omega, Ext.refl _⟩
    have h19 : k < 19 := by
      have : ¬ (19 : Int) ≤ k := by simpa using hc
      omega
    clear hc
    refine rn ?_
    refine sBs tb k ?_
    obtain ⟨d, hde⟩ : ∃ d, d = (s.getD k 0).toNat - 48 := ⟨_, rfl⟩
    rw [← hde] at hsn
    refine rn ?_
    refine GL.cons (Step.arith (k := .u8) (a := (s.getD k 0).toNat) (r := ((d : Nat) : Int)) rfl (Op1.of rfl (by first | exact fun _ => rfl | exact fun h => h | exact fun h => bL h | exact fun h => bL (bL h) | exact fun h => bL (bL (bL h)))) (Op1.of rfl (by first | exact fun _ => rfl | exact fun h => h | exact fun h => bL h | exact fun h => bL (bL h) | exact fun h => bL (bL (bL h)))) (by show IntKind.u8.wrap _ = _; rw [wrap_u8 (by omega) (by omega)]; omega) rfl ?_)
    refine rn ?_
    refine sCv tb (r := ((d : Nat) : Int)) ?_
    refine rn ?_
    refine sAd tb (r := -9223372036854775808 + ((d : Nat) : Int)) ?_
    refine rn ?_
    have hq : (-9223372036854775808 + ((d : Nat) : Int)).tdiv 10 = -((9223372036854775808 - (d : Int)) / 10) := by
      rw [show -9223372036854775808 + ((d : Nat) : Int) = -(9223372036854775808 - (d : Int)) by omega, Int.neg_tdiv, Int.tdiv_eq_ediv_of_nonneg (by omega)]
    refine sQuo (r := -((9223372036854775808 - (d : Int)) / 10)) (by rw [hq]; exact wrap_i64 (by omega) (by omega)) ?_
    refine rn ?_
    first | refine G.condD rfl (fun hc => ?_) (fun hc => ?_) | refine G.condN rfl (fun hc => ?_) (fun hc => ?_) | refine G.cond rfl (fun hc => ?_) (fun hc => ?_)
    · refine rn ?_
      refine G.ret2 rfl rfl rfl rfl rfl ?_
      exact ⟨0, 8, rfl, fun h => by have := hsml h; omega, Ext.refl _⟩
    refine rn ?_
    refine sAd tb (r := -((10 * numL (s.take k) 0 : Nat) : Int)) (hp := (wrap_i64 (n := 10 * -((numL (s.take k) 0 : Nat) : Int)) (by omega) (by omega)).trans (by omega)) ?_
    refine rn ?_
    refine sAd tb (r := -((numL (s.take (k + 1)) 0 : Nat) : Int)) (hp := (wrap_i64 (n := -((10 * numL (s.take k) 0 : Nat) : Int) - ((d : Nat) : Int)) (by omega) (by omega)).trans (by omega)) ?_
    refine rn ?_
    refine sAd tb (r := ((k + 1 : Nat) : Int)) ?_
    refine rn ?_
    exact G.lp (x := k) (k + 1) (by repeat (first | exact Sub.nil _ | refine Sub.cons rfl ?_)) ⟨rfl, by omega, by omega, by omega⟩ (by omega)
  have hke : s.take k = s := List.take_of_length_le (by omega)
  rw [hke] at hb hsml
  rw [hke]
  refine rn ?_
  first | refine G.condD rfl (fun hc => ?_) (fun hc => ?_) | refine G.condN rfl (fun hc => ?_) (fun hc => ?_) | refine G.cond rfl (fun hc => ?_) (fun hc => ?_)
  · refine rn ?_
    refine G.ret2 rfl rfl rfl rfl rfl ?_
    exact ⟨0, 8, rfl, fun h => by have := hsml h; omega, Ext.refl _⟩
  refine rn ?_
  refine GL.cons (Step.neg (r := ((numL s 0 : Nat) : Int)) rfl (Op1.of rfl (by first | exact fun _ => rfl | exact fun h => h | exact fun h => bL h | exact fun h => bL (bL h) | exact fun h => bL (bL (bL h)))) ((wrap_i64 (n := 0 - -((numL s 0 : Nat) : Int)) (by omega) (by omega)).trans (by omega)) rfl ?_)
  refine rn ?_
  refine GL.cons (Step.callX rfl rfl (by repeat (first | exact OpL.nil | refine OpL.cons (Op1.of rfl (by first | exact fun _ => rfl | exact fun h => h | exact fun h => bL h | exact fun h => bL (bL h) | exact fun h => bL (bL (bL h)))) ?_)) c71 rfl (fun hc => refIntText_ok ((numL s 0 : Nat) : Int) _ (by omega) (by omega)) ?_)
  intro W2 hx2
  have hdc : decN ((numL s 0 : Nat) : Int) = digF 19 (numL s 0) := by unfold decN; rw [if_neg (by omega), Int.natAbs_natCast]
  rw [hdc]
  refine rn ?_
  have hnil : s.length = 0 ↔ s = [] := List.length_eq_zero_iff
  first | refine G.condD rfl (fun hc => ?_) (fun hc => ?_) | refine G.condN rfl (fun hc => ?_) (fun hc => ?_) | refine G.cond rfl (fun hc => ?_) (fun hc => ?_)
  · refine rn ?_
    refine G.ret2 rfl rfl rfl rfl rfl ?_
    refine ⟨0, 8, rfl, fun _ => .inr ⟨?_, rfl⟩, hx2⟩
    rintro ⟨h1, h2⟩
    simp only [Bool.or_eq_true, decide_eq_true_eq, Bool.not_eq_true', decide_eq_false_iff_not] at hc
    rcases hc with hc | hc
    · exact h1 (hnil.1 (by omega))
    · exact hc h2
  · simp only [Bool.or_eq_false_iff, decide_eq_false_iff_not, Bool.not_eq_false', decide_eq_true_eq] at hc
    refine rn ?_
    refine G.ret2 rfl rfl rfl rfl rfl ?_
    exact ⟨_, 0, rfl, fun _ => .inl ⟨fun h => hc.1 (by rw [hnil.2 h]; rfl), hc.2, rfl, rfl⟩, hx2⟩
end Ref3
end Go.Proofs.YtbpkhgehchelhaaDoor
end
section
open Go Go.Vg Go.RowKit Go.Proofs Go.Proofs.YtbpkhgehchelhaaDoor
namespace Go.Proofs.YtbpkhgehchelhaaDoor

namespace Ref3
theorem digF3 : (∀ x : Fin 10, digF 19 (numL [UInt8.ofNat (48 + x.val)] 0) = [UInt8.ofNat (48 + x.val)]) ∧
    (∀ x y : Fin 10, (digF 19 (numL [UInt8.ofNat (48 + x.val), UInt8.ofNat (48 + y.val)] 0) = [UInt8.ofNat (48 + x.val), UInt8.ofNat (48 + y.val)]) ↔ x.val ≠ 0) ∧
    (∀ x y z : Fin 10, (digF 19 (numL [UInt8.ofNat (48 + x.val), UInt8.ofNat (48 + y.val), UInt8.ofNat (48 + z.val)] 0) = [UInt8.ofNat (48 + x.val), UInt8.ofNat (48 + y.val), UInt8.ofNat (48 + z.val)]) ↔ x.val ≠ 0) := by
  refine ⟨?_, ?_, ?_⟩ <;> decide +kernel
theorem dig_fin {c : UInt8} (h : 48 ≤ c.toNat ∧ c.toNat ≤ 57) : ∃ x : Fin 10, c = UInt8.ofNat (48 + x.val) ∧ c.toNat = 48 + x.val := by
  refine ⟨⟨c.toNat - 48, by omega⟩, ?_, by simp only; omega⟩
  rw [show 48 + (c.toNat - 48) = c.toNat by omega]
  exact (UInt8.ofNat_toNat).symm
theorem digF_iff {l : List UInt8} (hd : allD l) (h3 : l.length ≤ 3) (h0 : l ≠ []) : digF 19 (numL l 0) = l ↔ ¬ (1 < l.length ∧ (l.getD 0 0).toNat = 48) := by
  match l, hd, h3, h0 with
  | [], _, _, h => exact absurd rfl h
  | [a], hd, _, _ =>
    obtain ⟨x, hx, _⟩ := dig_fin (hd a (by simp))
    rw [hx]
    exact ⟨fun _ h => absurd h.1 (by simp), fun _ => digF3.1 x⟩
  | [a, b], hd, _, _ =>
    obtain ⟨x, hx, hxn⟩ := dig_fin (hd a (by simp))
    obtain ⟨y, hy, _⟩ := dig_fin (hd b (by simp))
    have := digF3.2.1 x y
    rw [← hx, ← hy] at this
    rw [this]
    simp only [List.length_cons, List.length_nil, List.getD_cons_zero]
    omega
  | [a, b, c], hd, _, _ =>
    obtain ⟨x, hx, hxn⟩ := dig_fin (hd a (by simp))
    obtain ⟨y, hy, _⟩ := dig_fin (hd b (by simp))
    obtain ⟨z, hz, _⟩ := dig_fin (hd c (by simp))
    have := digF3.2.2 x y z
    rw [← hx, ← hy, ← hz] at this
    rw [this]
    simp only [List.length_cons, List.length_nil, List.getD_cons_zero]
    omega
  | _ :: _ :: _ :: _ :: _, _, h, _ => simp at h
theorem numL_numN (s : List UInt8) : ∀ j, j ≤ s.length - 1 → numL ((s.drop 1).take j) 0 = Rx.numN s j
  | 0, _ => rfl
  | j + 1, h => by
    have hlt : j < (s.drop 1).length := by rw [List.length_drop]; omega
    have e : (s.drop 1)[j] = s.getD (1 + j) 0 := by
      rw [List.getElem_drop, List.getD_eq_getElem?_getD, List.getElem?_eq_getElem]; rfl
    rw [List.take_succ_eq_append_getElem hlt, numL_snoc, numL_numN s j (by omega), e, Rx.numN]
end Ref3
theorem namedP_brace {s : List UInt8} (h : (s.getD 0 0).toNat = 123) (h0 : 0 < s.length) : Rx.namedP s = if Rx.digitsP (s.drop 1) < 1 ∨ 3 < Rx.digitsP (s.drop 1) ∨ ¬ Rx.isB s (1 + Rx.digitsP (s.drop 1)) 125 = true ∨ (1 < Rx.digitsP (s.drop 1) ∧ (s.getD 1 0).toNat = 48) then (0, 0) else (Rx.numN s (Rx.digitsP (s.drop 1)), Rx.digitsP (s.drop 1) + 2) := by
  unfold Rx.namedP
  rw [if_neg (by omega), if_neg]
  intro hn
  apply hn
  unfold Rx.isB
  rw [decide_eq_true h0, decide_eq_true (UInt8.toNat_inj.1 h)]; rfl
theorem namedP_no {s : List UInt8} (h : ¬ (49 ≤ (s.getD 0 0).toNat ∧ (s.getD 0 0).toNat ≤ 57)) (h2 : (s.getD 0 0).toNat ≠ 123) : Rx.namedP s = (0, 0) := by
  unfold Rx.namedP
  rw [if_neg (by omega), if_pos]
  unfold Rx.isB
  rw [Bool.and_eq_true, decide_eq_true_eq, decide_eq_true_eq]
  rintro ⟨_, h3⟩
  exact h2 (by rw [h3]; rfl)
/-- the groups told lie in the text -/
def InG (x : List UInt8) (g : List Int) : Prop := ∀ k, 2 * k + 1 < g.length → g.getD (2 * k) 0 < 0 ∨ (0 ≤ g.getD (2 * k) 0 ∧ g.getD (2 * k) 0 ≤ g.getD (2 * k + 1) 0 ∧ g.getD (2 * k + 1) 0 ≤ (x.length : Int))
set_option maxHeartbeats 2000000 in
theorem group_ok (x : List UInt8) (g : List Int) (v : Value) (k : Nat) (w : World) (hv : Sli w v 1 (g.map inC)) (hin : InG x g) (hk : k ≤ 1000) (hg : g.length ≤ 100000) :
    Ret Tryd.prog 51 ⟨[S x, v, .int .i64 k]⟩ w fun r w' => r = S (Rx.grpP x g k) ∧ Ext w w' := by
  have hgl : (g.map inC).length = g.length := by simp
  have hget : ∀ j, j < g.length → (g.map inC)[j]? = some [.int .i64 (g.getD j 0)] := fun j hj => by
    rw [List.getElem?_map, List.getD_eq_getElem?_getD, List.getElem?_eq_getElem hj]; rfl
  refine ret_of_G Tryd.func51 rfl Tryd.ntmps51 rfl ?_
  simp only [argEnv]
  refine rn ?_
  refine sAd tb (r := ((2 * k : Nat) : Int)) (hp := (wrap_i64 (n := 2 * ((k : Nat) : Int)) (by omega) (by omega)).trans (by omega)) ?_
  refine rn ?_
  refine sAd tb (r := ((2 * k + 1 : Nat) : Int)) ?_
  refine rn ?_
  rw [hgl]
  by_cases hlt : 2 * k + 1 < g.length
  rotate_left
  · have hP : Rx.grpP x g k = [] := by unfold Rx.grpP; rw [if_neg hlt]
    rw [hP]
    rw [decide_eq_true (p := (g.length : Int) ≤ ((2 * k + 1 : Nat) : Int)) (by omega)]
    refine rn ?_
    refine GL.cons (Step.off (v := .int .i64 0) rfl (of_decide_eq_true rfl) rfl ?_)
    refine GL.cons (Step.off (v := .pointer none) rfl (of_decide_eq_true rfl) rfl ?_)
    refine GL.cons (Step.off (v := .int .i64 0) rfl (of_decide_eq_true rfl) rfl ?_)
    refine rn ?_
    refine G.ret1 rfl rfl rfl rfl ?_
    exact ⟨rfl, Ext.refl _⟩
  have hg1 := hget (2 * k) (by omega)
  have hg2 := hget (2 * k + 1) hlt
  rw [decide_eq_false (p := (g.length : Int) ≤ ((2 * k + 1 : Nat) : Int)) (by omega)]
  refine rn ?_
  refine sAd tb (r := ((2 * k : Nat) : Int)) (hp := (wrap_i64 (n := 2 * ((k : Nat) : Int)) (by omega) (by omega)).trans (by omega)) ?_
  refine rn ?_
  refine sIa tb (2 * k) ?_ (hj := fun _ => ⟨rfl, by rw [hgl]; omega⟩)
  refine rn ?_
  first | refine G.condD rfl (fun hc => ?_) (fun hc => ?_) | refine G.condN rfl (fun hc => ?_) (fun hc => ?_) | refine G.cond rfl (fun hc => ?_) (fun hc => ?_)
  · have hc : g.getD (2 * k) 0 < 0 := by simpa using hc
    have hP : Rx.grpP x g k = [] := by unfold Rx.grpP; rw [if_pos hlt, if_neg (by omega)]
    rw [hP]
    refine rn ?_
    refine G.ret1 rfl rfl rfl rfl ?_
    exact ⟨rfl, Ext.refl _⟩
  have hc : ¬ g.getD (2 * k) 0 < 0 := by simpa using hc
  obtain ⟨h1, h2, h3⟩ := (hin k hlt).resolve_left hc
  have hP : Rx.grpP x g k = (x.drop (g.getD (2 * k) 0).toNat).take ((g.getD (2 * k + 1) 0).toNat - (g.getD (2 * k) 0).toNat) := by unfold Rx.grpP; rw [if_pos hlt, if_pos ⟨h1, h2, h3⟩]
  rw [hP]
  obtain ⟨a, ha⟩ : ∃ a : Nat, g.getD (2 * k) 0 = a := ⟨(g.getD (2 * k) 0).toNat, by omega⟩
  obtain ⟨b, hb⟩ : ∃ b : Nat, g.getD (2 * k + 1) 0 = b := ⟨(g.getD (2 * k + 1) 0).toNat, by omega⟩
  rw [ha] at hg1 h2 ⊢
  rw [hb] at hg2 h2 h3 ⊢
  refine rn ?_
  refine G.regionM [(0, true), (1, true), (2, true), (3, true), (4, true), (5, true), (6, true), (7, true), (8, true), (9, true), (10, true), (11, true), (12, true), (13, true)] (Ext w) (by kernel_rfl) (by kernel_rfl) rfl mixed (Ext.drew w) rfl ?_
  refine rd ?_
  refine dAd tb (r := ((2 * k : Nat) : Int)) (hp := (wrap_i64 (n := 2 * ((k : Nat) : Int)) (by omega) (by omega)).trans (by omega)) ?_
  refine rd ?_
  refine dIa tb (2 * k) ?_ (hj := fun _ => ⟨rfl, by rw [hgl]; omega⟩)
  refine rd ?_
  refine dAd tb (r := ((2 * k : Nat) : Int)) (hp := (wrap_i64 (n := 2 * ((k : Nat) : Int)) (by omega) (by omega)).trans (by omega)) ?_
  refine rd ?_
  refine dAd tb (r := ((2 * k + 1 : Nat) : Int)) ?_
  refine rd ?_
  refine dIa tb (2 * k + 1) ?_ (hj := fun _ => ⟨rfl, by rw [hgl]; omega⟩)
  refine rd ?_
  refine GM.read (fun w' hS => Step.sliceS tb a b rfl (Op1.of rfl (by first | exact fun _ => rfl | exact fun h => h | exact fun h => bL h | exact fun h => bL (bL h) | exact fun h => bL (bL (bL h)))) (Op1.of rfl (by first | exact fun _ => rfl | exact fun h => h | exact fun h => bL h | exact fun h => bL (bL h) | exact fun h => bL (bL (bL h)))) (Op1.of rfl (by first | exact fun _ => rfl | exact fun h => h | exact fun h => bL h | exact fun h => bL (bL h) | exact fun h => bL (bL (bL h)))) rfl (fun _ => ⟨rfl, rfl, by omega, by omega⟩) rfl ⟨rfl, rfl⟩) rfl rfl ?_
  refine rd ?_
  refine GM.nil ?_
  refine rn ?_
  refine G.ret1 rfl rfl rfl rfl ?_
  exact ⟨by rw [Int.toNat_natCast, Int.toNat_natCast], Ext.drew w⟩
set_option maxHeartbeats 8000000 in
theorem expandR_ok (t x : List UInt8) (g : List Int) (v : Value) (w : World) (ht : t.length ≤ 1000) (hx0 : x.length ≤ 100000) (hgl : g.length ≤ 100000) (hv : Sli w v 1 (g.map inC)) (hin : InG x g) :
    Ret Tryd.prog 33 ⟨[S t, S x, v]⟩ w fun r w' => r = S (Rx.expandP t x g) ∧ Ext w w' := by
  refine ret_of_G Tryd.func33 rfl Tryd.ntmps33 rfl ?_
  simp only [argEnv]
  refine rn ?_
  refine (G.loop (fun y : Nat × Nat × List UInt8 => [(0, none, S t), (1, none, S x), (2, none, v), (7, none, S y.2.2), (8, none, .int .i64 y.2.1)]) (fun y W => Ext w W ∧ y.2.1 ≤ t.length ∧ t.length - y.2.1 < y.1 ∧ OutB y.2.2 y.2.1 ∧ Rx.expL t x g y.1 y.2.1 y.2.2 = Rx.expandP t x g) (fun y => y.1) (t.length + 1, 0, []) (by repeat (first | exact Sub.nil _ | refine Sub.cons rfl ?_)) ⟨Ext.refl _, Nat.zero_le _, by simp only; omega, outB (Nat.zero_le _), rfl⟩ ?_)
  rintro ⟨n, i, out⟩ W ⟨hx, hi, hn, hol, hL⟩
  simp only at hi hn hol hL
  have hol : out.length ≤ i * 100001 := hol
  have hib : i * 100001 ≤ 1000 * 100001 := Nat.mul_le_mul_right _ (by omega)
  have hvW := hv.to hx
  show G _ _ [(0, none, S t), (1, none, S x), (2, none, v), (7, none, S out), (8, none, .int .i64 i)] W
  obtain ⟨n, rfl⟩ : ∃ m, n = m + 1 := ⟨n - 1, by omega⟩
  rw [Rx.expL] at hL
  refine rn ?_
  first | refine G.condD rfl (fun hc => ?_) (fun hc => ?_) | refine G.condN rfl (fun hc => ?_) (fun hc => ?_) | refine G.cond rfl (fun hc => ?_) (fun hc => ?_)
  rotate_left
  · rw [if_neg (by omega)] at hL
    refine rn ?_
    refine G.ret1 rfl rfl rfl rfl ?_
    exact ⟨by rw [← hL], hx⟩
  have hlt : i < t.length := by omega
  rw [if_pos hlt] at hL
  clear hc
  refine rn ?_
  refine sBs tb i ?_
  refine rn ?_
  refine sAd tb (r := ((i + 1 : Nat) : Int)) ?_
  refine rn ?_
  first | refine G.condD rfl (fun hc => ?_) (fun hc => ?_) | refine G.condN rfl (fun hc => ?_) (fun hc => ?_) | refine G.cond rfl (fun hc => ?_) (fun hc => ?_)
  · have hc : (t.getD i 0).toNat ≠ 36 ∨ t.length ≤ i + 1 := by
      simp only [Bool.or_eq_true, Bool.not_eq_true', decide_eq_false_iff_not, decide_eq_true_eq] at hc
      omega
    have hL' : Rx.expL t x g n (i + 1) (out ++ [t.getD i 0]) = Rx.expandP t x g := by
      by_cases h36 : (t.getD i 0).toNat ≠ 36
      · rw [if_pos h36] at hL; exact hL
      · have h36' : t.getD i 0 = 36 := UInt8.toNat_inj.1 (by simpa using h36)
        have hlen := hc.resolve_left h36
        have h2 : ¬ Rx.isB t (i + 1) 36 = true := by
          unfold Rx.isB; rw [decide_eq_false (by omega)]; simp
        have h3 : Rx.namedP (t.drop (i + 1)) = (0, 0) := by rw [List.drop_eq_nil_of_le hlen]; rfl
        rw [if_neg h36, if_neg h2, h3, if_pos rfl] at hL
        rw [h36']; exact hL
    refine rn ?_
    refine sAd tb (r := ((i + 1 : Nat) : Int)) ?_
    refine rn ?_
    refine GL.cons (Step.sliceS tb i (i + 1) rfl (Op1.of rfl (by first | exact fun _ => rfl | exact fun h => h | exact fun h => bL h | exact fun h => bL (bL h) | exact fun h => bL (bL (bL h)))) (Op1.of rfl (by first | exact fun _ => rfl | exact fun h => h | exact fun h => bL h | exact fun h => bL (bL h) | exact fun h => bL (bL (bL h)))) (Op1.of rfl (by first | exact fun _ => rfl | exact fun h => h | exact fun h => bL h | exact fun h => bL (bL h) | exact fun h => bL (bL (bL h)))) rfl (fun _ => ⟨rfl, rfl, by omega, by omega⟩) rfl ?_)
    have hsl : (t.drop i).take (i + 1 - i) = [t.getD i 0] := by
      rw [show i + 1 - i = 1 by omega, List.drop_eq_getElem_cons hlt, List.take_succ_cons, List.take_zero, List.getD_eq_getElem?_getD, List.getElem?_eq_getElem hlt]; rfl
    rw [hsl]
    refine rn ?_
    refine sCat tb ?_
    refine rn ?_
    refine sAd tb (r := ((i + 1 : Nat) : Int)) ?_
    refine rn ?_
    exact G.lp (x := (n + 1, i, out)) (n, i + 1, out ++ [t.getD i 0]) (by repeat (first | exact Sub.nil _ | refine Sub.cons rfl ?_)) ⟨hx, by simp only; omega, by simp only; omega, out_le hol _ (by simp), hL'⟩ (by simp only; omega)
  have hc' : (t.getD i 0).toNat = 36 ∧ i + 1 < t.length := by
    simp only [Bool.or_eq_false_iff, Bool.not_eq_false', decide_eq_true_eq, decide_eq_false_iff_not] at hc
    omega
  clear hc
  obtain ⟨h36, hlt1⟩ := hc'
  rw [if_neg (by omega)] at hL
  have hg0 : (t.drop (i + 1)).getD 0 0 = t.getD (i + 1) 0 := by rw [Rx.getD_drop]
  have hdl0 : 0 < (t.drop (i + 1)).length := by rw [List.length_drop]; omega
  refine rn ?_
  refine sAd tb (r := ((i + 1 : Nat) : Int)) ?_
  refine rn ?_
  refine sBs tb (i + 1) ?_ (hj := fun _ => ⟨rfl, hlt1⟩)
  obtain ⟨c, hce⟩ : ∃ c, c = t.getD (i + 1) 0 := ⟨_, rfl⟩
  rw [← hce] at hg0 ⊢
  refine rn ?_
  first | refine G.condD rfl (fun hc => ?_) (fun hc => ?_) | refine G.condN rfl (fun hc => ?_) (fun hc => ?_) | refine G.cond rfl (fun hc => ?_) (fun hc => ?_)
  · have hc : c.toNat = 36 := by
      have hc : (c.toNat : Int) = 36 := by simpa using hc
      omega
    have h2 : Rx.isB t (i + 1) 36 = true := by
      unfold Rx.isB; rw [← hce, decide_eq_true hlt1, decide_eq_true (UInt8.toNat_inj.1 hc)]; rfl
    rw [if_pos h2] at hL
    refine rn ?_
    refine sCat tb ?_
    refine rn ?_
    refine sAd tb (r := ((i + 1 : Nat) : Int)) ?_
    refine rn ?_
    refine sAd tb (r := ((i + 2 : Nat) : Int)) ?_
    refine rn ?_
    exact G.lp (x := (n + 1, i, out)) (n, i + 2, out ++ [36]) (by repeat (first | exact Sub.nil _ | refine Sub.cons rfl ?_)) ⟨hx, by simp only; omega, by simp only; omega, out_le (m := 2) hol _ (by simp), hL⟩ (by simp only; omega)
  have hc36 : c.toNat ≠ 36 := by
    intro h
    have hc : ¬ (c.toNat : Int) = 36 := by simpa using hc
    omega
  have h2 : ¬ Rx.isB t (i + 1) 36 = true := by
    unfold Rx.isB
    rw [← hce, Bool.and_eq_true, decide_eq_true_eq, decide_eq_true_eq]
    rintro ⟨_, h⟩
    exact hc36 (by rw [h]; rfl)
  rw [if_neg h2] at hL
  clear hc
  refine rn ?_
  first | refine G.condD rfl (fun hc => ?_) (fun hc => ?_) | refine G.condN rfl (fun hc => ?_) (fun hc => ?_) | refine G.cond rfl (fun hc => ?_) (fun hc => ?_)
  · have hc : 49 ≤ c.toNat ∧ c.toNat ≤ 57 := by
      simp only [Bool.and_eq_true, decide_eq_true_eq] at hc
      omega
    have hP : Rx.namedP (t.drop (i + 1)) = (c.toNat - 48, 1) := by
      unfold Rx.namedP; rw [hg0, if_pos ⟨hdl0, hc.1, hc.2⟩]
    rw [hP, if_neg (show ¬ (1 : Nat) = 0 by decide)] at hL
    refine rn ?_
    refine GL.cons (Step.arith (k := .u8) (a := c.toNat) (r := ((c.toNat - 48 : Nat) : Int)) rfl (Op1.of rfl (by first | exact fun _ => rfl | exact fun h => h | exact fun h => bL h | exact fun h => bL (bL h) | exact fun h => bL (bL (bL h)))) (Op1.of rfl (by first | exact fun _ => rfl | exact fun h => h | exact fun h => bL h | exact fun h => bL (bL h) | exact fun h => bL (bL (bL h)))) (by show IntKind.u8.wrap _ = _; rw [wrap_u8 (by omega) (by omega)]; omega) rfl ?_)
    refine rn ?_
    refine sCv tb (r := ((c.toNat - 48 : Nat) : Int)) ?_
    refine rn ?_
    refine sCall c51 (group_ok x g v (c.toNat - 48) W hvW hin (by omega) hgl) ?_
    rintro _ W2 ⟨rfl, hx2⟩
    have hgl2 := Rx.grpP_len x g (c.toNat - 48)
    refine rn ?_
    refine sCat tb ?_ (hk := fun _ => by omega)
    refine rn ?_
    refine sAd tb (r := ((i + 1 : Nat) : Int)) ?_
    refine rn ?_
    refine sAd tb (r := ((i + 2 : Nat) : Int)) ?_
    refine rn ?_
    exact G.lp (x := (n + 1, i, out)) (n, i + 2, out ++ Rx.grpP x g (c.toNat - 48)) (by repeat (first | exact Sub.nil _ | refine Sub.cons rfl ?_)) ⟨hx.trans hx2, by simp only; omega, by simp only; omega, out_le (m := 2) hol _ (by omega), hL⟩ (by simp only; omega)
  have hcd : ¬ (49 ≤ c.toNat ∧ c.toNat ≤ 57) := by
    rintro ⟨h1, h2⟩
    simp only [Bool.and_eq_false_iff, decide_eq_false_iff_not] at hc
    omega
  clear hc
  refine rn ?_
  first | refine G.condD rfl (fun hc => ?_) (fun hc => ?_) | refine G.condN rfl (fun hc => ?_) (fun hc => ?_) | refine G.cond rfl (fun hc => ?_) (fun hc => ?_)
  rotate_left
  · have hc : c.toNat ≠ 123 := by
      intro h
      have hc : ¬ (c.toNat : Int) = 123 := by simpa using hc
      omega
    have hP : Rx.namedP (t.drop (i + 1)) = (0, 0) := namedP_no (by rw [hg0]; exact hcd) (by rw [hg0]; exact hc)
    rw [hP, if_pos rfl] at hL
    refine rn ?_
    refine sCat tb ?_
    refine rn ?_
    refine sAd tb (r := ((i + 1 : Nat) : Int)) ?_
    refine rn ?_
    exact G.lp (x := (n + 1, i, out)) (n, i + 1, out ++ [36]) (by repeat (first | exact Sub.nil _ | refine Sub.cons rfl ?_)) ⟨hx, by simp only; omega, by simp only; omega, out_le hol _ (by simp), hL⟩ (by simp only; omega)
  have hc : c.toNat = 123 := by
    have hc : (c.toNat : Int) = 123 := by simpa using hc
    omega
  have hP := namedP_brace (s := t.drop (i + 1)) (by rw [hg0]; exact hc) hdl0
  rw [List.drop_drop, show i + 1 + 1 = i + 2 by omega] at hP
  have hul : (t.drop (i + 2)).length = t.length - (i + 2) := List.length_drop ..
  have hug : ∀ j, (t.drop (i + 2)).getD j 0 = t.getD (i + 2 + j) 0 := fun j => Rx.getD_drop ..
  refine rn ?_
  refine sAd tb (r := ((i + 2 : Nat) : Int)) ?_
  refine rn ?_
  refine (G.loop (fun y : Nat × Nat => [(0, none, S t), (1, none, S x), (2, none, v), (7, none, S out), (8, none, .int .i64 i), (10, none, .int .i64 ((i + 2 + y.2 : Nat) : Int))]) (fun y W' => W' = W ∧ y.2 ≤ t.length - (i + 2) ∧ t.length - (i + 2) - y.2 ≤ y.1 ∧ Rx.digN (t.drop (i + 2)) y.1 y.2 = Rx.digitsP (t.drop (i + 2))) (fun y => y.1) (t.length - (i + 2), 0) (by repeat (first | exact Sub.nil _ | refine Sub.cons rfl ?_)) ⟨rfl, Nat.zero_le _, by simp only; omega, by unfold Rx.digitsP; rw [hul]⟩ ?_)
  rintro ⟨m, j⟩ W' ⟨hW', hj, hm, hD⟩
  simp only at hj hm hD
  subst hW'
  show G _ _ [(0, none, S t), (1, none, S x), (2, none, v), (7, none, S out), (8, none, .int .i64 i), (10, none, .int .i64 ((i + 2 + j : Nat) : Int))] W'
  have hp : ∀ {c : Bool}, (decide (((i + 2 + j : Nat) : Int) < t.length) && c) = true → i + 2 + j < t.length := fun {c} h => by
    rw [Bool.and_eq_true, decide_eq_true_eq] at h
    omega
  have hp0 : decide (((i + 2 + j : Nat) : Int) < t.length) = true → i + 2 + j < t.length := fun h => by
    rw [decide_eq_true_eq] at h
    omega
  refine rn ?_
  refine GL.cons (Step.indexS tb (i + 2 + j) rfl (Op1.of rfl (by first | exact fun _ => rfl | exact fun h => h | exact fun h => bL h | exact fun h => bL (bL h) | exact fun h => bL (bL (bL h)))) (Op1.of rfl (by first | exact fun _ => rfl | exact fun h => h | exact fun h => bL h | exact fun h => bL (bL h) | exact fun h => bL (bL (bL h)))) rfl (fun hc => ⟨rfl, hp0 hc⟩) rfl ?_)
  refine rn ?_
  refine GL.cons (Step.indexS tb (i + 2 + j) rfl (Op1.of rfl (by first | exact fun _ => rfl | exact fun h => h | exact fun h => bL h | exact fun h => bL (bL h) | exact fun h => bL (bL (bL h)))) (Op1.of rfl (by first | exact fun _ => rfl | exact fun h => h | exact fun h => bL h | exact fun h => bL (bL h) | exact fun h => bL (bL (bL h)))) rfl (fun hc => ⟨rfl, hp hc⟩) rfl ?_)
  refine rn ?_
  first | refine G.condD rfl (fun hc => ?_) (fun hc => ?_) | refine G.condN rfl (fun hc => ?_) (fun hc => ?_) | refine G.cond rfl (fun hc => ?_) (fun hc => ?_)
  · have hc' : j < (t.drop (i + 2)).length ∧ 48 ≤ ((t.drop (i + 2)).getD j 0).toNat ∧ ((t.drop (i + 2)).getD j 0).toNat ≤ 57 := by
      rw [hul, hug]
      simp only [Bool.and_eq_true, decide_eq_true_eq] at hc
      omega
    obtain ⟨m, rfl⟩ : ∃ q, m = q + 1 := ⟨m - 1, by omega⟩
    rw [Rx.digN, if_pos hc'] at hD
    refine rn ?_
    refine sAd tb (r := ((i + 2 + (j + 1) : Nat) : Int)) ?_
    refine rn ?_
    exact G.lp (x := (m + 1, j)) (m, j + 1) (by repeat (first | exact Sub.nil _ | refine Sub.cons rfl ?_)) ⟨rfl, by simp only; omega, by simp only; omega, hD⟩ (by simp only; omega)
  have hc' : ¬ (j < (t.drop (i + 2)).length ∧ 48 ≤ ((t.drop (i + 2)).getD j 0).toNat ∧ ((t.drop (i + 2)).getD j 0).toNat ≤ 57) := by
    rw [hul, hug]
    rintro ⟨h1, h2, h3⟩
    simp only [Bool.and_eq_false_iff, decide_eq_false_iff_not] at hc
    omega
  have hje : Rx.digitsP (t.drop (i + 2)) = j := by
    rw [← hD]
    cases m with
    | zero => rfl
    | succ m => rw [Rx.digN, if_neg hc']
  have hdj : ∀ q, q < j → 48 ≤ (t.getD (i + 2 + q) 0).toNat ∧ (t.getD (i + 2 + q) 0).toNat ≤ 57 := fun q hq => by
    rw [← hje] at hq
    have := Rx.digN_dig (t.drop (i + 2)) _ 0 q (Nat.zero_le _) hq
    rw [hug] at this
    exact ⟨this.2, this.1⟩
  rw [hje] at hP
  clear hc hc' hD hm hp hp0
  obtain ⟨ds, hds⟩ : ∃ ds, ds = (t.drop (i + 2)).take j := ⟨_, rfl⟩
  have hdsl : ds.length = j := by rw [hds, List.length_take, hul]; omega
  have hdsd : Ref3.allD ds := fun b hb => by
    rw [hds] at hb
    obtain ⟨q, hq, rfl⟩ := List.getElem_of_mem hb
    rw [List.length_take, hul] at hq
    rw [List.getElem_take]
    have := hdj q (by omega)
    rw [← hug, List.getD_eq_getElem?_getD, List.getElem?_eq_getElem (by rw [hul]; omega)] at this
    exact this
  have hnum : Ref3.numL ds 0 = Rx.numN (t.drop (i + 1)) j := by
    have := Ref3.numL_numN (t.drop (i + 1)) j (by rw [List.length_drop]; omega)
    rw [List.drop_drop, show i + 1 + 1 = i + 2 by omega, ← hds] at this
    exact this
  have hd0 : (ds.getD 0 0).toNat = ((t.drop (i + 1)).getD 1 0).toNat ∨ j = 0 := by
    by_cases h : j = 0
    · exact .inr h
    · left
      rw [Rx.getD_drop, hds, List.getD_eq_getElem?_getD, List.getElem?_take_of_lt (by omega), ← List.getD_eq_getElem?_getD, hug]
  refine rn ?_
  refine sAd tb (r := ((i + 2 : Nat) : Int)) ?_
  refine rn ?_
  refine GL.cons (Step.sliceS tb (i + 2) (i + 2 + j) rfl (Op1.of rfl (by first | exact fun _ => rfl | exact fun h => h | exact fun h => bL h | exact fun h => bL (bL h) | exact fun h => bL (bL (bL h)))) (Op1.of rfl (by first | exact fun _ => rfl | exact fun h => h | exact fun h => bL h | exact fun h => bL (bL h) | exact fun h => bL (bL (bL h)))) (Op1.of rfl (by first | exact fun _ => rfl | exact fun h => h | exact fun h => bL h | exact fun h => bL (bL h) | exact fun h => bL (bL (bL h)))) rfl (fun _ => ⟨rfl, rfl, by omega, by omega⟩) rfl ?_)
  rw [show i + 2 + j - (i + 2) = j by omega, ← hds]
  refine rn ?_
  refine sCall c52 (Ref3.int_ok ds W' hdsd (by omega)) ?_
  rintro _ W2 ⟨q, e, rfl, hIR, hx2⟩
  have hx02 := hx.trans hx2
  refine rn ?_
  refine GL.cons (Step.indexS tb (i + 2 + j) rfl (Op1.of rfl (by first | exact fun _ => rfl | exact fun h => h | exact fun h => bL h | exact fun h => bL (bL h) | exact fun h => bL (bL (bL h)))) (Op1.of rfl (by first | exact fun _ => rfl | exact fun h => h | exact fun h => bL h | exact fun h => bL (bL h) | exact fun h => bL (bL (bL h)))) rfl (fun hc => ⟨rfl, by have hc : decide (((i + 2 + j : Nat) : Int) < t.length) = true := hc; rw [decide_eq_true_eq] at hc; omega⟩) rfl ?_)
  refine rn ?_
  refine sAd tb (r := ((j + 2 : Nat) : Int)) (hp := (wrap_i64 (n := ((i + 2 + j : Nat) : Int) - ((i : Nat) : Int)) (by omega) (by omega)).trans (by omega)) ?_
  refine rn ?_
  refine sAd tb (r := ((j : Nat) : Int)) (hp := (wrap_i64 (n := ((j + 2 : Nat) : Int) - 2) (by omega) (by omega)).trans (by omega)) ?_
  refine rn ?_
  first | refine G.condD rfl (fun hc => ?_) (fun hc => ?_) | refine G.condN rfl (fun hc => ?_) (fun hc => ?_) | refine G.cond rfl (fun hc => ?_) (fun hc => ?_)
  · have hc' : i + 2 + j < t.length ∧ (t.getD (i + 2 + j) 0).toNat = 125 ∧ e = 0 ∧ j ≤ 3 := by
      simp only [Bool.and_eq_true, decide_eq_true_eq] at hc
      omega
    obtain ⟨h1, h3, he, hj3⟩ := hc'
    obtain ⟨hne, hdf, _, hq⟩ := (hIR (by omega)).resolve_right (fun h => by omega)
    have hj1 : 1 ≤ j := by
      rw [← hdsl]
      exact List.length_pos_iff.2 hne
    have hfst := (Ref3.digF_iff hdsd (by omega) hne).1 hdf
    rw [hdsl, hd0.resolve_right (by omega)] at hfst
    have h125 : Rx.isB (t.drop (i + 1)) (1 + j) 125 = true := by
      unfold Rx.isB
      rw [Rx.getD_drop, List.length_drop, show i + 1 + (1 + j) = i + 2 + j by omega, decide_eq_true (by omega), decide_eq_true (UInt8.toNat_inj.1 h3)]; rfl
    rw [if_neg (by
      rintro (h | h | h | h)
      · omega
      · omega
      · exact h h125
      · exact hfst h)] at hP
    rw [hP, if_neg (by simp only; omega)] at hL
    simp only at hL
    have hnlt : Rx.numN (t.drop (i + 1)) j ≤ 999 := by
      have := (Rx.namedP_le (t.drop (i + 1))).1
      rw [hP] at this
      exact this
    rw [hq, hnum]
    refine rn ?_
    refine sCall c51 (group_ok x g v (Rx.numN (t.drop (i + 1)) j) W2 (hv.to hx02) hin (by omega) hgl) ?_
    rintro _ W3 ⟨rfl, hx3⟩
    have hgl2 := Rx.grpP_len x g (Rx.numN (t.drop (i + 1)) j)
    refine rn ?_
    refine sCat tb ?_ (hk := fun _ => by omega)
    refine rn ?_
    refine sAd tb (r := ((i + 1 + (j + 2) : Nat) : Int)) (hp := (wrap_i64 (n := ((i + 2 + j : Nat) : Int) + 1) (by omega) (by omega)).trans (by omega)) ?_
    refine rn ?_
    have hom : OutB (out ++ Rx.grpP x g (Rx.numN (t.drop (i + 1)) j)) (i + 1 + (j + 2)) := by
      have h1 : 1 * 100001 ≤ (1 + (j + 2)) * 100001 := Nat.mul_le_mul_right _ (by omega)
      have := out_le (m := 1 + (j + 2)) hol (Rx.grpP x g (Rx.numN (t.drop (i + 1)) j)) (Nat.le_trans hgl2 (Nat.le_trans hx0 (Nat.le_trans (by decide) h1)))
      rwa [show i + (1 + (j + 2)) = i + 1 + (j + 2) by omega] at this
    exact G.lp (x := (n + 1, i, out)) (n, i + 1 + (j + 2), out ++ Rx.grpP x g (Rx.numN (t.drop (i + 1)) j)) (by repeat (first | exact Sub.nil _ | refine Sub.cons rfl ?_)) ⟨hx02.trans hx3, by simp only; omega, by simp only; omega, hom, hL⟩ (by simp only; omega)
  · have hP0 : Rx.namedP (t.drop (i + 1)) = (0, 0) := by
      rw [hP]
      apply if_pos
      apply Decidable.byContradiction
      intro hno
      have n1 : ¬ j < 1 := fun h => hno (.inl h)
      have n2 : ¬ 3 < j := fun h => hno (.inr (.inl h))
      have n3 : Rx.isB (t.drop (i + 1)) (1 + j) 125 = true := Decidable.byContradiction fun h => hno (.inr (.inr (.inl h)))
      have n4 : ¬ (1 < j ∧ ((t.drop (i + 1)).getD 1 0).toNat = 48) := fun h => hno (.inr (.inr (.inr h)))
      unfold Rx.isB at n3
      rw [Rx.getD_drop, List.length_drop, show i + 1 + (1 + j) = i + 2 + j by omega, Bool.and_eq_true, decide_eq_true_eq, decide_eq_true_eq] at n3
      have hne : ds ≠ [] := List.length_pos_iff.1 (by omega)
      have hdf := (Ref3.digF_iff hdsd (by omega) hne).2 (by rw [hdsl, hd0.resolve_right (by omega)]; exact n4)
      have he : e = 0 := by
        rcases hIR (by omega) with ⟨_, _, he, _⟩ | ⟨h, _⟩
        · exact he
        · exact absurd ⟨hne, hdf⟩ h
      have h125 : (t.getD (i + 2 + j) 0).toNat = 125 := by rw [n3.2]; rfl
      simp only [Bool.and_eq_false_iff, decide_eq_false_iff_not] at hc
      omega
    rw [hP0, if_pos rfl] at hL
    refine rn ?_
    refine sCat tb ?_
    refine rn ?_
    refine sAd tb (r := ((i + 1 : Nat) : Int)) ?_
    refine rn ?_
    exact G.lp (x := (n + 1, i, out)) (n, i + 1, out ++ [36]) (by repeat (first | exact Sub.nil _ | refine Sub.cons rfl ?_)) ⟨hx02, by simp only; omega, by simp only; omega, out_le hol _ (by simp), hL⟩ (by simp only; omega)
end Go.Proofs.YtbpkhgehchelhaaDoor
end
section
open Go Go.Vg Go.RowKit Go.Proofs Go.Proofs.YtbpkhgehchelhaaDoor
namespace Go.Proofs.YtbpkhgehchelhaaDoor

set_option maxHeartbeats 4000000 in
theorem expand_law (s text : List UInt8) (v : Value) (ss : List (List UInt8)) (w : World) (hs : s.length ≤ 9223372036854775807) (htx : text.length ≤ 9223372036854775807) (hv : Sli w v 1 (ss.map strC)) (hz : ∀ x ∈ ss, x.length ≤ 9223372036854775807) (hT : Tabs w) :
    Ret Tryd.prog 10 ⟨[S s, S text, v]⟩ w fun r w' => r = .bool true ∧ Ext w w' := by
  have hll : (ss.map strC).length = ss.length := by simp
  refine ret_of_G Tryd.func10 rfl Tryd.ntmps10 rfl ?_
  simp only [argEnv]
  refine rn ?_
  refine sCall c28 (clip_ok text w htx) ?_
  rintro _ _ ⟨rfl, rfl⟩
  obtain ⟨x, hxe⟩ : ∃ x, x = text.take 60 := ⟨_, rfl⟩
  have hxl : x.length ≤ 60 := by rw [hxe, List.length_take]; omega
  rw [← hxe]
  clear hxe htx
  refine rn ?_
  refine sCall c12 (compE_ok _ s hs) ?_
  rintro _ W1 ⟨hx1, ⟨t, g, pb, hcp, hE, rfl⟩ | ⟨e, f, hcp, rfl⟩⟩
  rotate_left
  · obtain ⟨fv, hfv, hne⟩ : ∃ fv : Int, fv = (if f = 1 then 8 else 9) ∧ fv ≠ 0 := ⟨_, rfl, by split <;> decide⟩
    rw [← hfv]
    refine rn ?_
    first | refine G.condD rfl (fun hc => ?_) (fun hc => ?_) | refine G.condN rfl (fun hc => ?_) (fun hc => ?_) | refine G.cond rfl (fun hc => ?_) (fun hc => ?_)
    rotate_left
    · exfalso; simp [hne] at hc
    clear hc
    refine rn ?_
    refine sCall c13 (wakes_ok W1 (hT.to hx1)) ?_
    rintro _ W2 ⟨rfl, hx2⟩
    refine rn ?_
    refine G.ret1 rfl rfl rfl rfl ?_
    exact ⟨rfl, hx1.trans hx2⟩
  obtain ⟨hr, hl256, _⟩ := Rx.comp_ok hcp
  have hg256 := (Rx.readP_num hr).2
  refine rn ?_
  refine sCall c16 (groupsE_ok W1 pb g s t x hE (by omega)) ?_
  rintro _ W2 ⟨hx2, ⟨hgr, rfl⟩ | ⟨l, gv, hgr, hgl, hgo, rfl⟩⟩
  · refine rn ?_
    refine sCall c13 (wakes_ok W2 (hT.to (hx1.trans hx2))) ?_
    rintro _ W3 ⟨rfl, hx3⟩
    refine rn ?_
    refine G.ret1 rfl rfl rfl rfl ?_
    exact ⟨rfl, (hx1.trans hx2).trans hx3⟩
  have hin : InG x l := Rx.groups_in hr hgr
  have hx02 := hx1.trans hx2
  clear hx1 hx2
  refine rn ?_
  refine (G.loop (fun i : Nat => [(1, none, S x), (2, none, v), (10, none, gv), (12, none, .int .i64 i)]) (fun i W => Ext W2 W ∧ i ≤ ss.length ∧ i ≤ 20) (fun i => ss.length - i) 0 (by repeat (first | exact Sub.nil _ | refine Sub.cons rfl ?_)) ⟨Ext.refl _, Nat.zero_le _, Nat.zero_le _⟩ ?_)
  rintro i W ⟨hx, hi, hi2⟩
  have hx0 := hx02.trans hx
  have hvW := hv.to hx0
  have hgW := hgo.to hx
  refine rn ?_
  rw [hll]
  refine rn ?_
  first | refine G.condD rfl (fun hc => ?_) (fun hc => ?_) | refine G.condN rfl (fun hc => ?_) (fun hc => ?_) | refine G.cond rfl (fun hc => ?_) (fun hc => ?_)
  rotate_left
  · refine rn ?_
    refine sCall c13 (wakes_ok W (hT.to hx0)) ?_
    rintro _ W4 ⟨rfl, hx4⟩
    refine rn ?_
    refine G.ret1 rfl rfl rfl rfl ?_
    exact ⟨rfl, hx0.trans hx4⟩
  have hlt : i < ss.length ∧ i < 20 := by
    simp only [Bool.and_eq_true, decide_eq_true_eq] at hc
    omega
  clear hc
  have hget : (ss.map strC)[i]? = some [S ss[i]] := by rw [List.getElem?_map, List.getElem?_eq_getElem hlt.1]; rfl
  have hzi := hz ss[i] (List.getElem_mem hlt.1)
  generalize ss[i] = tm at hget hzi
  refine rn ?_
  refine sIa tb i ?_ (hj := fun _ => ⟨rfl, by rw [hll]; exact hlt.1⟩)
  refine rn ?_
  refine sCall c28 (clip_ok tm W hzi) ?_
  rintro _ _ ⟨rfl, rfl⟩
  obtain ⟨u, hue⟩ : ∃ u, u = tm.take 60 := ⟨_, rfl⟩
  have hul : u.length ≤ 60 := by rw [hue, List.length_take]; omega
  rw [← hue]
  have hlb : (l.map inC).length ≤ 1000 := by rw [List.length_map]; omega
  refine rn ?_
  refine sBs' tb ([] : List (List Value)) (fun us W6 ho6 hs6 hx6 => ?_)
  refine rn ?_
  refine sApp tb ho6 (hgW.to hx6).sli (fun cv W7 ho7 hg7 => ?_) (h1 := int_one) (hb := by simp only [List.length_nil]; omega) (hl := by simp only [List.length_nil]; omega)
  rw [List.nil_append] at ho7
  have hx7 := hg7.below _ hx6
  have hgs7 := hgW.sli.to hx7
  refine rn ?_
  refine sCall c32 (expand_ok u x l cv W7 (by omega) (by omega) (by omega) ho7.sli) ?_
  rintro _ W8 ⟨rfl, hx8⟩
  refine rn ?_
  refine sCall c33 (expandR_ok u x l gv W8 (by omega) (by omega) (by omega) (hgs7.to hx8) hin) ?_
  rintro _ W9 ⟨rfl, hx9⟩
  refine rn ?_
  first | refine G.condD rfl (fun hc => ?_) (fun hc => ?_) | refine G.condN rfl (fun hc => ?_) (fun hc => ?_) | refine G.cond rfl (fun hc => ?_) (fun hc => ?_)
  · exfalso; simp at hc
  clear hc
  refine rn ?_
  refine sAd tb (r := ((i + 1 : Nat) : Int)) ?_
  refine rn ?_
  exact G.lp (x := i) (i + 1) (by repeat (first | exact Sub.nil _ | refine Sub.cons rfl ?_)) ⟨hx.trans (Ext.trans hx7 (hx8.trans hx9)), by omega, by omega⟩ (by omega)
end Go.Proofs.YtbpkhgehchelhaaDoor
end
section
open Go Go.Vg Go.RowKit Go.Proofs Go.Proofs.YtbpkhgehchelhaaDoor
namespace Go.Proofs.YtbpkhgehchelhaaDoor
open Go.Lib Go.Shelf Go.ChangeShapes Go.WideShapes Go.ChangeAt

set_option maxRecDepth 100000 in
theorem contract_regexExpand (H : Type) (enc : TypeId × Value → H) (W : World) (base : Nat) (args : Array Value) (ds gs : List (DataW H)) (before : List MemPlace)
    (hval : ∀ (j : Nat) t v, Tryd.f10.params[j]? = some t → args[j]? = some v → Value.okWide Tryd.prog W .any base t v)
    (hW : DataW.Whole enc Tryd.prog Tryd.f10.params.toList Rows.regexExpandSpec.vars false W args.toList ds gs before) (hL : laidMetH Tryd.prog Rows.regexExpandRow.laid W) :
    Calls Tryd.prog 10 args W fun e W' => ∃ v, e = .returned v ∧ Rows.regexExpandSpec.post enc Tryd.prog Tryd.f10 false true false false W args v W' := by
  have hW' := hW
  obtain ⟨p, q, hA0, hV, rfl, hfz, hnd⟩ := hW
  have hA : DataW.TrodAll enc Tryd.prog W 0 (fun _ => true) true Tryd.f10.params.toList args.toList ds p := hA0
  rw [Tryd.params10] at hA hval
  obtain ⟨v0, vs0, d0, ds0, p0, q0, hargs, rfl, rfl, h0, r0⟩ := trodAll_cons hA
  obtain ⟨v1, vs1, d1, ds1, p1, q1, rfl, rfl, rfl, h1, r1⟩ := trodAll_cons r0
  obtain ⟨v2, vs2, d2, ds2, p2, q2, rfl, rfl, rfl, h2, r2⟩ := trodAll_cons r1
  obtain ⟨rfl, rfl, rfl⟩ := trodAll_nil r2
  obtain rfl : args = #[v0, v1, v2] := by cases args; simp_all
  have k0 := OkW.mk (hval 0 _ v0 rfl rfl)
  have k1 := OkW.mk (hval 1 _ v1 rfl rfl)
  have k2 := OkW.mk (hval 2 _ v2 rfl rfl)
  obtain ⟨s0, rfl, hs0⟩ := openS (tb.ok _ _ rfl) k0 h0
  obtain ⟨s1, rfl, hs1⟩ := openS (tb.ok _ _ rfl) k1 h1
  obtain ⟨x2, hx2, hz2⟩ := open_strs k2 h2
  refine Calls.mono (expand_law s0 s1 v2 x2 W hs0 hs1 hx2 hz2 (tabs hL)) ?_
  rintro e W' ⟨v, rfl, rfl, hx⟩
  exact ⟨_, rfl, law_post laidOut (by kernel_rfl) (tb := 4) rfl (tb.ok _ _ rfl) rfl hW' rfl hx⟩
theorem reads_regexExpand (os : Os) {H : Type} (enc : TypeId × Value → H) : ∃ places, DataW.whole enc Tryd.prog ((laidWorld os).forCall (fun _ _ => 0) ⟨#[], #[.string ⟨#[]⟩, .string ⟨#[]⟩, .slice none 0 0], []⟩).memory Tryd.f10.params.toList Rows.regexExpandSpec.vars false #[.string ⟨#[]⟩, .string ⟨#[]⟩, .slice none 0 0].toList 8 = some ([.lit (.string []), .lit (.string []), .nil], [], places) :=
  ⟨[], by kernel_rfl⟩
set_option maxRecDepth 100000 in
theorem lifted_regexExpand (os : Os) (started : os.Started) (H : Type) (enc : TypeId × Value → H) (F : Stop.Interp) :
    ReturnsInHanded {} Tryd.checked os 10 .any ((OpenSpec.ofChange Rows.regexExpandSpec).preRow enc Tryd.prog Tryd.f10 Rows.regexExpandRow.domain false Rows.regexExpandRow.laid) (((OpenSpec.ofChange Rows.regexExpandSpec).at F).post enc Tryd.prog Tryd.f10 false true false false) := by
  obtain ⟨places, hx⟩ := reads_regexExpand os enc
  refine returnsInHanded_of_row (C := Tryd.checked) (s := OpenSpec.ofChange Rows.regexExpandSpec) own started (by kernel_rfl) Tryd.func10
    (witness_row_at (enc := enc) (C := Tryd.checked) false (laidWorld os) #[.string ⟨#[]⟩, .string ⟨#[]⟩, .slice none 0 0] rfl (by kernel_rfl) (by kernel_rfl) (by kernel_rfl)
      (OpenSpec.preRow_of_cond 8 hx (by kernel_rfl) (fun k hk => by cases hk) (by kernel_rfl) (laid_met os _))) ?_
  intro W base args ds gs before hval hW _ _ _ hL _ _
  exact contract_regexExpand H enc W base args ds gs before hval hW hL
theorem said_regexExpand : Rows.RegexExpandSaid :=
  OpenClaim.holds_of_cond 10 Tryd.f10 rfl rfl rfl rfl rfl rfl rfl ⟨rfl, rfl, rfl, rfl, rfl⟩ rfl rfl rfl rfl rfl (by kernel_rfl) Tryd.func10 (by kernel_rfl)
    (of_decide_eq_true (by kernel_rfl)) (by unfold Func.isWrapper; first | (rw [if_pos (by decide +kernel)]; kernel_rfl) | (rw [if_neg (by decide +kernel)]; exact ⟨rfl, rfl⟩))
    (fun os started H enc _ F => by rw [OpenClaim.pre_eq_preRow]; exact lifted_regexExpand os started H enc F)
theorem plain_regexExpand (f : FuncId) (fn : Func) (hf : Tryd.pinned.checked.prog.funcNamed "vigil/vigillaw04.RegexExpand" = some f) (hfn : Tryd.pinned.checked.prog.funcs[f]? = some fn) :
    true = Tryd.pinned.checked.prog.looks [] ∧ ∀ (j : Nat) t, fn.params[j]? = some t → Tryd.pinned.checked.prog.wantsStandIn t = false := by
  obtain rfl : f = 10 := Option.some.inj ((show Tryd.prog.funcNamed "vigil/vigillaw04.RegexExpand" = some 10 by kernel_rfl).symm.trans hf) |>.symm
  obtain rfl : fn = Tryd.f10 := (Option.some.inj (Tryd.func10.symm.trans hfn)).symm
  refine ⟨by kernel_rfl, fun j t ht => ?_⟩
  rw [Tryd.params10] at ht
  have hm : t ∈ #[9, 9, 22] := Array.mem_of_getElem? ht
  simp only [List.mem_toArray, List.mem_cons, List.not_mem_nil, or_false] at hm
  rcases hm with rfl | rfl | rfl
  · exact (show Tryd.prog.wantsStandIn 9 = false by kernel_rfl)
  · exact (show Tryd.prog.wantsStandIn 9 = false by kernel_rfl)
  · exact (show Tryd.prog.wantsStandIn 22 = false by kernel_rfl)
/-- RegexExpand: whatever expression, text and templates, the law of templates returns true and leaves what came in alone. -/
theorem RegexExpand_holds : Rows.RegexExpandCardSaid :=
  Claim7.holds_tied_plain_at .later [] _ _ _ _ said_regexExpand (fun _ h => by cases h) (by kernel_rfl) (fun _ h => by cases h) regexExpand_row_tie rfl ⟨rfl, rfl⟩ (by kernel_rfl) rfl plain_regexExpand (by kernel_rfl)
end Go.Proofs.YtbpkhgehchelhaaDoor
end
