/- Part of the proof of a statement about the given program. -/
import Derived.Test.YtcngoccnfmhhnaaGreatDoorP06
set_option linter.unusedSimpArgs false
set_option linter.unusedVariables false
set_option linter.unusedSectionVars false
section
namespace Go.Nm

/-- digits that read as the float of the bits b, the number being 0.digits times ten to the top -/
structure DigR (b : Nat) (s : List UInt8) (top : Int) : Prop where
  dig : allD s
  ne : s ≠ []
  hd : s.head? ≠ some 48
  len : s.length ≤ 19
  lo : -330 ≤ top
  hi : top ≤ 310
  rd : ReadsT (numL s 0) (top - s.length) b
def bodyP (d : List UInt8) (x : Int) (t : List UInt8) : List UInt8 :=
  if x < -5 ∨ 21 < x then d.take 1 ++ ((if 1 < d.length then 46 :: d.drop 1 else []) ++ 101 :: (if x - 1 < 0 then 45 else 43) :: t)
  else if x ≤ 0 then 48 :: 46 :: (List.replicate (-x).toNat 48 ++ d)
  else if (d.length : Int) ≤ x then d ++ List.replicate (x - d.length).toNat 48
  else d.take x.toNat ++ 46 :: d.drop x.toNat
/-- the text of a float that is no nought -/
def textP (d : List UInt8) (x : Int) (neg : Bool) (t : List UInt8) : List UInt8 := (if neg then [45] else []) ++ bodyP d x t

theorem isD_iff {c : UInt8} : isD c = true ↔ 48 ≤ c.toNat ∧ c.toNat ≤ 57 := by simp [isD]
theorem runD_app : ∀ {a t : List UInt8}, allD a → (∀ c, t.head? = some c → isD c = false) → runD (a ++ t) = a.length
  | [], [], _, _ => rfl
  | [], c :: t, _, h => by
    have := h c rfl
    rw [List.nil_append, runD, if_neg (by rw [this]; decide)]; rfl
  | x :: a, t, h, g => by
    rw [List.cons_append, runD, if_pos (isD_iff.2 (h x List.mem_cons_self)), runD_app (fun c hc => h c (List.mem_cons_of_mem _ hc)) g, List.length_cons]
theorem split_np {a t : List UInt8} (ha : allD a) (ht : ∀ c, t.head? = some c → isD c = false ∧ c ≠ 46) : splitP (a ++ t) = (a, 0, t) := by
  have hr := runD_app (a := a) (t := t) ha (fun c hc => (ht c hc).1)
  unfold splitP
  rw [hr, List.drop_left, List.take_left, if_neg]
  intro h
  exact (ht 46 h).2 rfl
theorem split_pt {a c t : List UInt8} (ha : allD a) (hc : allD c) (ht : ∀ x, t.head? = some x → isD x = false) : splitP (a ++ 46 :: (c ++ t)) = (a ++ c, c.length, t) := by
  have hr := runD_app (a := a) (t := 46 :: (c ++ t)) ha (fun x hx => by simp only [List.head?_cons, Option.some.injEq] at hx; subst hx; decide)
  have hr2 := runD_app (a := c) (t := t) hc ht
  unfold splitP
  rw [hr, List.drop_left, List.take_left, if_pos (by rfl), List.drop_one, List.tail_cons, hr2, List.drop_left, List.take_left]
theorem trimZ_id : ∀ {d : List UInt8}, d.head? ≠ some 48 → trimZ d = d
  | [], _ => rfl
  | c :: d, h => by
    rw [trimZ, if_neg (by intro e; exact h (by rw [e]; rfl))]
theorem trimZ_rep {d : List UInt8} (h : d.head? ≠ some 48) : ∀ n, trimZ (List.replicate n 48 ++ d) = d
  | 0 => trimZ_id h
  | n + 1 => by
    rw [List.replicate_succ, List.cons_append, trimZ, if_pos rfl, trimZ_rep h n]
theorem numL_rep : ∀ (k n : Nat), numL (List.replicate k 48) n = n * 10 ^ k
  | 0, n => by simp [numL]
  | k + 1, n => by
    rw [List.replicate_succ, numL, numL_rep k, show (48 : UInt8).toNat - 48 = 0 from rfl, Nat.add_zero, Nat.pow_succ, Nat.mul_comm 10, Nat.mul_assoc, Nat.mul_comm 10]
theorem numL_ap : ∀ (a b : List UInt8) (n : Nat), numL (a ++ b) n = numL b (numL a n)
  | [], b, n => rfl
  | c :: a, b, n => numL_ap a b _
theorem allD_rep (n : Nat) : allD (List.replicate n 48) := fun c hc => by rw [List.eq_of_mem_replicate hc]; decide
theorem allD_ap {a b : List UInt8} (ha : allD a) (hb : allD b) : allD (a ++ b) := fun c hc => by
  rcases List.mem_append.1 hc with h | h
  · exact ha c h
  · exact hb c h
theorem allD_take {a : List UInt8} (h : allD a) (n : Nat) : allD (a.take n) := fun c hc => h c (List.mem_of_mem_take hc)
theorem allD_drop {a : List UInt8} (h : allD a) (n : Nat) : allD (a.drop n) := fun c hc => h c (List.mem_of_mem_drop hc)
theorem expP_of {ng : Bool} {t : List UInt8} (ht : allD t) (hne : t ≠ []) : expP (101 :: (if ng then 45 else 43) :: t) = some (ng, t) := by
  have hr : runD t = t.length := by have := runD_app (a := t) (t := []) ht (fun c hc => by simp at hc); rwa [List.append_nil] at this
  unfold expP
  rw [if_pos (.inl rfl)]
  cases ng
  · simp [unsign, signed, minus, hr, hne]
  · simp [unsign, signed, minus, hr, hne]
/-- the digits and the exponent of a body -/
theorem readP_body {b : Nat} {d t : List UInt8} {x : Int} (h : DigR b d x) (ht : allD t) (hne : t ≠ []) (hk : numL t 0 = (x - 1).natAbs) :
    ∃ (l : List UInt8) (y : Int), readP (bodyP d x t) = some (trimZ l, y) ∧ allD l ∧ trimZ l ≠ [] ∧ ReadsT (numL (trimZ l) 0) y b ∧ ((trimZ l).length : Int) + y = x := by
  have hlo := h.lo
  have hhi := h.hi
  have hl1 : 0 < d.length := List.length_pos_iff.2 h.ne
  have hid := trimZ_id h.hd
  by_cases h1 : x < -5 ∨ 21 < x
  · have e : bodyP d x t = d.take 1 ++ ((if 1 < d.length then 46 :: d.drop 1 else []) ++ 101 :: (if decide (x - 1 < 0) = true then 45 else 43) :: t) := by
      unfold bodyP; rw [if_pos h1]
      simp only [decide_eq_true_eq]
    have hsp : splitP (bodyP d x t) = (d, d.length - 1, 101 :: (if decide (x - 1 < 0) = true then 45 else 43) :: t) := by
      rw [e]
      by_cases h2 : 1 < d.length
      · rw [if_pos h2, List.cons_append, split_pt (allD_take h.dig 1) (allD_drop h.dig 1) (fun c hc => by simp only [List.head?_cons, Option.some.injEq] at hc; subst hc; decide), List.take_append_drop, List.length_drop]
      · have h3 : d.length = 1 := by omega
        rw [if_neg h2, List.nil_append, List.take_of_length_le (by omega), split_np h.dig (fun c hc => by simp only [List.head?_cons, Option.some.injEq] at hc; subst hc; decide), h3]
    refine ⟨d, x - d.length, ?_, h.dig, by rw [hid]; exact h.ne, by rw [hid]; exact h.rd, by rw [hid]; omega⟩
    unfold readP
    rw [hsp]
    simp only
    rw [if_neg h.ne, if_neg (by simp), expP_of ht hne]
    simp only [hk]
    congr 2
    rw [show min (x - 1).natAbs 100000 = (x - 1).natAbs by omega]
    by_cases hx : x - 1 < 0
    · rw [if_pos (decide_eq_true hx)]; omega
    · simp only [hx, decide_false, Bool.false_eq_true, if_false]; omega
  · by_cases h2 : x ≤ 0
    · have e : bodyP d x t = [48] ++ 46 :: ((List.replicate (-x).toNat 48 ++ d) ++ []) := by unfold bodyP; rw [if_neg h1, if_pos h2, List.append_nil]; rfl
      have hsp : splitP (bodyP d x t) = ([48] ++ (List.replicate (-x).toNat 48 ++ d), (List.replicate (-x).toNat 48 ++ d).length, []) := by
        rw [e]
        exact split_pt (allD_rep 1) (allD_ap (allD_rep _) h.dig) (fun c hc => by simp at hc)
      have htr : trimZ ([48] ++ (List.replicate (-x).toNat 48 ++ d)) = d := trimZ_rep h.hd ((-x).toNat + 1)
      refine ⟨[48] ++ (List.replicate (-x).toNat 48 ++ d), x - d.length, ?_, allD_ap (allD_rep 1) (allD_ap (allD_rep _) h.dig), by rw [htr]; exact h.ne, by rw [htr]; exact h.rd, by rw [htr]; omega⟩
      unfold readP
      rw [hsp]
      simp only
      rw [if_neg (by simp), if_pos trivial]
      congr 2
      rw [List.length_append, List.length_replicate]; omega
    · by_cases h3 : (d.length : Int) ≤ x
      · have e : bodyP d x t = (d ++ List.replicate (x - d.length).toNat 48) ++ [] := by unfold bodyP; rw [if_neg h1, if_neg h2, if_pos h3, List.append_nil]
        have hsp : splitP (bodyP d x t) = (d ++ List.replicate (x - d.length).toNat 48, 0, []) := by
          rw [e]
          exact split_np (allD_ap h.dig (allD_rep _)) (fun c hc => by simp at hc)
        have htr : trimZ (d ++ List.replicate (x - d.length).toNat 48) = d ++ List.replicate (x - d.length).toNat 48 := trimZ_id (by cases hd : d with
          | nil => exact absurd hd h.ne
          | cons a l => have := h.hd; rw [hd] at this; simpa using this)
        have hne2 : d ++ List.replicate (x - d.length).toNat 48 ≠ [] := fun e => h.ne (List.append_eq_nil_iff.1 e).1
        refine ⟨d ++ List.replicate (x - d.length).toNat 48, 0, ?_, allD_ap h.dig (allD_rep _), by rw [htr]; exact hne2, ?_, by rw [htr, List.length_append, List.length_replicate]; omega⟩
        · unfold readP
          rw [hsp]
          simp only
          rw [if_neg hne2, if_pos trivial]
          rfl
        · rw [htr, numL_ap, numL_rep, readsT_pow]
          have := h.rd
          rwa [show (0 : Int) + ((x - d.length).toNat : Int) = x - d.length by omega]
      · have e : bodyP d x t = d.take x.toNat ++ 46 :: (d.drop x.toNat ++ []) := by unfold bodyP; rw [if_neg h1, if_neg h2, if_neg h3, List.append_nil]
        have hsp : splitP (bodyP d x t) = (d, d.length - x.toNat, []) := by
          rw [e, split_pt (allD_take h.dig _) (allD_drop h.dig _) (fun c hc => by simp at hc), List.take_append_drop, List.length_drop]
        refine ⟨d, x - d.length, ?_, h.dig, by rw [hid]; exact h.ne, by rw [hid]; exact h.rd, by rw [hid]; omega⟩
        unfold readP
        rw [hsp]
        simp only
        rw [if_neg h.ne, if_pos trivial]
        congr 2
        omega
theorem body_head {b : Nat} {d t : List UInt8} {x : Int} (h : DigR b d x) : ∃ c r, bodyP d x t = c :: r ∧ 48 ≤ c.toNat ∧ c.toNat ≤ 57 := by
  have hl1 : 0 < d.length := List.length_pos_iff.2 h.ne
  cases hd : d with
  | nil => exact absurd hd h.ne
  | cons a l =>
    have ha := h.dig a (by rw [hd]; exact List.mem_cons_self)
    unfold bodyP
    split
    · exact ⟨a, _, rfl, ha⟩
    · split
      · exact ⟨48, _, rfl, by decide⟩
      · split
        · exact ⟨a, _, rfl, ha⟩
        · rename_i h1 h2 h3
          obtain ⟨n, hn⟩ : ∃ n, x.toNat = n + 1 := ⟨x.toNat - 1, by omega⟩
          rw [hn]
          exact ⟨a, _, rfl, ha⟩
def okC (c : UInt8) : Prop := 43 ≤ c.toNat ∧ c.toNat ≤ 101
instance (c : UInt8) : Decidable (okC c) := by unfold okC; infer_instance
theorem body_chars {b : Nat} {d t : List UInt8} {x : Int} (h : DigR b d x) (ht : allD t) (htl : t.length ≤ 20) : (∀ c ∈ bodyP d x t, okC c) ∧ (bodyP d x t).length ≤ 390 := by
  have hw : ∀ {l : List UInt8}, allD l → ∀ c ∈ l, okC c := fun hl c hc => by have := hl c hc; unfold okC; omega
  have hlen := h.len
  have hlo := h.lo
  have hhi := h.hi
  unfold bodyP
  split
  · refine ⟨fun c hc => ?_, ?_⟩
    · simp only [List.mem_append, List.mem_cons] at hc
      rcases hc with hc | hc | hc | hc | hc
      · exact hw (allD_take h.dig 1) c hc
      · split at hc
        · rcases List.mem_cons.1 hc with hc | hc
          · subst hc; decide
          · exact hw (allD_drop h.dig 1) c hc
        · simp at hc
      · subst hc; decide
      · split at hc <;> subst hc <;> decide
      · exact hw ht c hc
    · have e : (if 1 < d.length then (46 : UInt8) :: d.drop 1 else []).length ≤ 20 := by
        split
        · simp only [List.length_cons, List.length_drop]; omega
        · exact Nat.zero_le _
      simp only [List.length_append, List.length_cons, List.length_take]
      omega
  · split
    · refine ⟨fun c hc => ?_, ?_⟩
      · simp only [List.mem_append, List.mem_cons] at hc
        rcases hc with hc | hc | hc | hc
        · subst hc; decide
        · subst hc; decide
        · exact hw (allD_rep _) c hc
        · exact hw h.dig c hc
      · simp only [List.length_append, List.length_cons, List.length_replicate]; omega
    · split
      · refine ⟨fun c hc => ?_, ?_⟩
        · rcases List.mem_append.1 hc with hc | hc
          · exact hw h.dig c hc
          · exact hw (allD_rep _) c hc
        · simp only [List.length_append, List.length_replicate]; omega
      · refine ⟨fun c hc => ?_, ?_⟩
        · simp only [List.mem_append, List.mem_cons] at hc
          rcases hc with hc | hc | hc
          · exact hw (allD_take h.dig _) c hc
          · subst hc; decide
          · exact hw (allD_drop h.dig _) c hc
        · simp only [List.length_append, List.length_cons, List.length_take, List.length_drop]; omega
/-- what a float's text answers -/
structure TextR (v : Nat) (s : List UInt8) : Prop where
  parse : parseP s = some v
  chars : ∀ c ∈ s, 43 ≤ c.toNat ∧ c.toNat ≤ 110
  ne : s ≠ []
  len : s.length ≤ 400
theorem lowB_dig {c : UInt8} (h : 48 ≤ c.toNat ∧ c.toNat ≤ 57) : lowB c = c := by unfold lowB; rw [if_neg (by omega)]
theorem text_law {b : Nat} {d t : List UInt8} {x : Int} {neg : Bool} (hb : 0 < b) (hbi : b < infB) (h : DigR b d x) (ht : allD t) (hne : t ≠ []) (htl : t.length ≤ 20) (hk : numL t 0 = (x - 1).natAbs) : TextR (b + sgn neg) (textP d x neg t) := by
  obtain ⟨l, y, h1, h2, h3, h4, h5⟩ := readP_body h ht hne hk
  obtain ⟨c, r, hc, hc1⟩ := body_head (t := t) h
  obtain ⟨hch, hln⟩ := body_chars h ht htl
  have hlo := h.lo
  have hhi := h.hi
  have hpb : progBits (trimZ l) y = b := prog_of_reads h2 hb hbi h3 (by omega) (by omega) h4
  have hun : unsign (textP d x neg t) = bodyP d x t := by
    unfold textP
    cases neg
    · rw [if_neg (by decide), List.nil_append, hc]
      unfold unsign signed
      rw [if_neg]
      simp only [List.head?_cons, Option.some.injEq, Bool.or_eq_true, decide_eq_true_eq]
      rintro (e | e) <;> subst e <;> simp at hc1
    · rw [if_pos rfl]; rfl
  have hmi : minus (textP d x neg t) = neg := by
    unfold textP
    cases neg
    · rw [if_neg (by decide), List.nil_append, hc]
      unfold minus
      simp only [List.head?_cons, Option.some.injEq, decide_eq_false_iff_not]
      intro e; subst e; simp at hc1
    · rw [if_pos rfl]; rfl
  have hlen : (textP d x neg t).length ≤ 400 := by
    unfold textP
    rw [List.length_append]
    have : (if neg = true then [(45 : UInt8)] else []).length ≤ 1 := by split <;> decide
    omega
  refine ⟨?_, fun z hz => ?_, ?_, hlen⟩
  · unfold parseP
    rw [if_neg (by omega), hun, hmi, h1]
    simp only
    have hno : ∀ z m, z ≠ c → (bodyP d x t).map lowB ≠ z :: m := fun z m hz e => by
      rw [hc, List.map_cons, lowB_dig hc1] at e
      exact hz (List.cons.inj e).1.symm
    have n1 : (110 : UInt8) ≠ c := fun e => by subst e; simp at hc1
    have n2 : (105 : UInt8) ≠ c := fun e => by subst e; simp at hc1
    rw [if_neg (hno _ _ n1), if_neg (by rintro (e | e); exact hno _ _ n2 e; exact hno _ _ n2 e), hpb]
  · unfold textP at hz
    rcases List.mem_append.1 hz with hz | hz
    · split at hz
      · rw [List.mem_singleton.1 hz]; decide
      · simp at hz
    · exact ⟨(hch z hz).1, Nat.le_trans (hch z hz).2 (by decide)⟩
  · unfold textP
    rw [hc]
    simp
theorem text_zero (neg : Bool) : TextR (sgn neg) ((if neg then [45] else []) ++ [48]) := by
  have e : ∀ x, progBits [] x = 0 := fun x => by unfold progBits; rw [if_pos (.inl rfl)]
  cases neg
  · refine ⟨?_, by decide, by decide, by decide⟩
    show parseP [48] = some 0
    have h : readP [48] = some ([], 0) := by decide
    unfold parseP
    rw [if_neg (by decide), if_neg (by decide), if_neg (by decide), show unsign [48] = [48] from rfl, h]
    simp only [e]
    rfl
  · refine ⟨?_, by decide, by decide, by decide⟩
    show parseP [45, 48] = some (sgn true)
    have h : readP [48] = some ([], 0) := by decide
    unfold parseP
    rw [if_neg (by decide), if_neg (by decide), if_neg (by decide), show unsign [45, 48] = [48] from rfl, h]
    simp only [e]
    rw [show minus [45, 48] = true from rfl, Nat.zero_add]
theorem text_nan : TextR nanB [78, 97, 78] := ⟨by unfold parseP; rw [if_neg (by decide), if_pos (by decide)], by decide, by decide, by decide⟩
theorem text_inf (neg : Bool) : TextR (infB + sgn neg) ((if neg then 45 else 43) :: [73, 110, 102]) := by
  cases neg
  · refine ⟨?_, by decide, by decide, by decide⟩
    unfold parseP
    rw [if_neg (by decide), if_neg (by decide), if_pos (.inl (by decide))]
    rfl
  · refine ⟨?_, by decide, by decide, by decide⟩
    unfold parseP
    rw [if_neg (by decide), if_neg (by decide), if_pos (.inl (by decide))]
    rfl
end Go.Nm
end
section
open Go Go.Vg Go.RowKit Go.Proofs Go.Proofs.YtcngoccnfmhhnaaGreatDoor
namespace Go.Proofs.YtcngoccnfmhhnaaGreatDoor
open Go.Ex Go.Nm

/-- a set that New makes -/
structure SetOk (s : List Lab.Lab) : Prop where
  fair : ∀ x ∈ s, Lab.fairB x = true
  full : ∀ x ∈ s, x.2 ≠ []
  sort : Lab.sortedL s
  once : (s.map (·.1)).Nodup
  few : s.length ≤ 64
theorem newR_set {ls s : List Lab.Lab} (h : Lab.newR ls = (0, s)) : SetOk s := by
  unfold Lab.newR at h
  split at h
  · rename_i ha
    split at h
    · simp at h
    · rename_i h2
      split at h
      · simp at h
      · rename_i h3
        simp only [Prod.mk.injEq, true_and] at h
        subst h
        have hp := Lab.foldN_perm ls
        have hm : ∀ x ∈ (Lab.foldN ls).1, x ∈ ls ∧ x.2 ≠ [] := fun x hx => by
          have := hp.subset hx
          unfold Lab.keptL at this
          rw [List.mem_filter] at this
          exact ⟨this.1, by simpa using this.2⟩
        refine ⟨fun x hx => List.all_eq_true.1 ha x (hm x hx).1, fun x hx => (hm x hx).2, Lab.foldN_sorted ls, ?_, by omega⟩
        rw [(hp.map _).nodup_iff]
        exact Classical.byContradiction fun hn => h2 ((Lab.foldN_twice ls).2 hn)
  · simp at h
theorem SetOk.right {s : List Lab.Lab} (h : SetOk s) : Lab.rightB s = true := by
  have hto : Lab.rightTo s s.length := by
    intro i hi
    have hm := Lab.labAt_mem hi
    unfold Lab.okAt
    rw [h.fair _ hm, decide_eq_false (h.full _ hm)]
    simp only [Bool.not_true, Bool.false_or, Bool.not_eq_eq_eq_not, Bool.and_eq_false_iff, decide_eq_false_iff_not, Bool.not_eq_false']
    by_cases h0 : (0 : Int) < i
    · right
      have hi1 : i - 1 < s.length := by omega
      have h1 := List.pairwise_iff_getElem.1 h.sort (i - 1) i hi1 hi (by omega)
      have h2 := List.pairwise_iff_getElem.1 h.once (i - 1) i (by simpa using hi1) (by simpa using hi) (by omega)
      simp only [List.getElem_map] at h2
      have a1 : Lab.labAt s (i - 1) = s[i - 1] := by simp [Lab.labAt, List.getD, hi1]
      have a2 : Lab.labAt s i = s[i] := by simp [Lab.labAt, List.getD, hi]
      rw [a1, a2]
      rcases Lab.bl_not h1 with e | e
      · exact absurd e h2
      · exact e
    · left; exact h0
  unfold Lab.rightB
  rw [decide_eq_true hto, decide_eq_true (show ((s.length : Nat) : Int) ≤ 64 by have := h.few; omega)]
  rfl
theorem getL_perm {n : List UInt8} : ∀ {s : List Lab.Lab}, (s.map (·.1)).Nodup → Lab.getL s n ≠ [] → ((n, Lab.getL s n) :: Lab.pickL s [n] false).Perm s
  | [], _, h => absurd rfl h
  | x :: s, hn, h => by
    simp only [List.map_cons, List.nodup_cons] at hn
    by_cases hx : x.1 = n
    · have hg : Lab.getL (x :: s) n = x.2 := by unfold Lab.getL; rw [if_pos hx]
      have hp : Lab.pickL (x :: s) [n] false = s := by
        unfold Lab.pickL
        rw [List.filter_cons, if_neg (by simp [hx])]
        rw [List.filter_eq_self]
        intro y hy
        have : y.1 ≠ n := fun e => hn.1 (List.mem_map.2 ⟨y, hy, by rw [e, hx]⟩)
        simp [this]
      rw [hg, hp]
      have : (n, x.2) = x := by rw [← hx]
      rw [this]
    · have hg : Lab.getL (x :: s) n = Lab.getL s n := by rw [Lab.getL, if_neg hx]
      have hp : Lab.pickL (x :: s) [n] false = x :: Lab.pickL s [n] false := by
        unfold Lab.pickL
        rw [List.filter_cons, if_pos (by simp [hx])]
      rw [hg] at h ⊢
      rw [hp]
      exact (List.Perm.swap _ _ _).trans (List.Perm.cons _ (getL_perm hn.2 h))
theorem SetOk.again {s : List Lab.Lab} (h : SetOk s) {n : List UInt8} (hg : Lab.getL s n ≠ []) : Lab.newR ((n, Lab.getL s n) :: Lab.pickL s [n] false) = (0, s) := by
  have hp := getL_perm h.once hg
  generalize (n, Lab.getL s n) :: Lab.pickL s [n] false = l at hp
  have hall : l.all Lab.fairB = true := List.all_eq_true.2 fun x hx => h.fair x (hp.subset hx)
  have hk : Lab.keptL l = l := by
    unfold Lab.keptL
    rw [List.filter_eq_self]
    intro x hx
    simpa using h.full x (hp.subset hx)
  have hnd : (l.map (·.1)).Nodup := (hp.map _).nodup_iff.2 h.once
  have h2 : ¬ (Lab.foldN l).2 = true := fun e => by
    rw [Lab.foldN_twice, hk] at e
    exact e hnd
  have h3 := Lab.foldN_perm l
  rw [hk] at h3
  have he : (Lab.foldN l).1 = s := (Lab.sorted_unique h.sort (Lab.foldN_sorted l) h.once (hp.symm.trans h3.symm)).symm
  unfold Lab.newR
  rw [if_pos hall, if_neg h2, he, if_neg (by have := h.few; omega)]
theorem letB_named {c : UInt8} {i : Nat} {colons : Bool} (h : Lab.namedC colons i c = true) : (letB colons c || (!decide (i = 0) && isD c)) = true := by
  unfold Lab.namedC Lab.lett Lab.digitC at h
  unfold letB isD
  cases colons <;> simp only [Bool.or_eq_true, Bool.and_eq_true, decide_eq_true_eq, Bool.not_eq_true', decide_eq_false_iff_not, Bool.false_eq_true, and_false, or_false, and_true] at h ⊢ <;> omega
theorem nameN_of {colons : Bool} : ∀ (s : List UInt8) (i : Nat), (∀ j, j < s.length → Lab.namedC colons (i + j) (s.getD j 0) = true) → nameN colons (decide (i = 0)) s = s.length
  | [], _, _ => rfl
  | c :: s, i, h => by
    have h0 := h 0 (by simp)
    simp only [Nat.add_zero, List.getD_cons_zero] at h0
    have ih := nameN_of s (i + 1) fun j hj => by
      have := h (j + 1) (by simpa using hj)
      simp only [List.getD_cons_succ] at this
      rw [show i + 1 + j = i + (j + 1) by omega]; exact this
    rw [decide_eq_false (show ¬ i + 1 = 0 by omega)] at ih
    rw [nameN, if_pos (letB_named h0), ih, List.length_cons]
theorem nmOk_of {colons : Bool} {s : List UInt8} (h : Lab.namedB colons s = true) : NmOk colons s ∧ s.length ≤ 1024 := by
  unfold Lab.namedB at h
  simp only [Bool.and_eq_true, decide_eq_true_eq, Bool.not_eq_true', decide_eq_false_iff_not] at h
  have := nameN_of s 0 fun j hj => by rw [Nat.zero_add]; exact h.1 j hj
  exact ⟨⟨h.2.1, this⟩, by omega⟩
theorem fair_of {x : Lab.Lab} (h : Lab.fairB x = true) : LbOk x ∧ x.1.length ≤ 1024 ∧ x.2.length ≤ 1024 ∧ (x.1 = nameB → x.2 ≠ [] → NmOk true x.2) := by
  unfold Lab.fairB Lab.rightV at h
  simp only [Bool.and_eq_true, Bool.or_eq_true, decide_eq_true_eq, Bool.not_eq_true', decide_eq_false_iff_not] at h
  obtain ⟨⟨h1, h2, h3⟩, h4⟩ := h
  obtain ⟨a1, a2⟩ := nmOk_of h1
  refine ⟨⟨a1, ?_⟩, a2, ?_, fun e hne => ?_⟩
  · rw [← Lab.validU_D]; assumption
  · omega
  · rcases h4 with (h4 | h4) | h4
    · exact absurd e h4
    · exact absurd h4 hne
    · exact (nmOk_of h4).1
theorem getL_mem {n : List UInt8} {s : List Lab.Lab} (h : Lab.getL s n ≠ []) : (n, Lab.getL s n) ∈ s := by
  induction s with
  | nil => exact absurd rfl h
  | cons x s ih =>
    rw [Lab.getL] at h ⊢
    by_cases hx : x.1 = n
    · rw [if_pos hx, ← hx]; exact List.mem_cons_self
    · rw [if_neg hx] at h ⊢
      exact List.mem_cons_of_mem _ (ih h)
theorem pickL_mem {n : List UInt8} {s : List Lab.Lab} {x : Lab.Lab} (h : x ∈ Lab.pickL s [n] false) : x ∈ s ∧ x.1 ≠ n := by
  unfold Lab.pickL at h
  rw [List.mem_filter] at h
  exact ⟨h.1, by simpa using h.2⟩
theorem name_no10 {colons : Bool} : ∀ {s : List UInt8} {f : Bool}, nameN colons f s = s.length → ∀ c ∈ s, c ≠ 10
  | [], _, _, c, hc => by simp at hc
  | x :: s, f, h, c, hc => by
    rw [nameN] at h
    split at h
    · rename_i hx
      rcases List.mem_cons.1 hc with rfl | hc
      · intro e; subst e
        unfold letB isD at hx
        simp at hx
      · exact name_no10 (by simpa using h) c hc
    · simp at h
theorem esc_no10 {s : List UInt8} : ∀ c ∈ escT s, c ≠ 10 := by
  intro c hc
  unfold escT at hc
  obtain ⟨a, ha, hc⟩ := List.mem_flatMap.1 hc
  unfold escC at hc
  split at hc
  · simp only [List.mem_cons, List.not_mem_nil, or_false] at hc
    rcases hc with rfl | rfl <;> decide
  · split at hc
    · simp only [List.mem_cons, List.not_mem_nil, or_false] at hc
      rcases hc with rfl | rfl <;> decide
    · split at hc
      · simp only [List.mem_cons, List.not_mem_nil, or_false] at hc
        rcases hc with rfl | rfl <;> decide
      · rw [List.mem_singleton.1 hc]; assumption
theorem labT_no10 {x : Lab.Lab} (h : LbOk x) : ∀ c ∈ labT x, c ≠ 10 := by
  intro c hc
  unfold labT at hc
  simp only [List.mem_append, List.mem_cons, List.not_mem_nil, or_false] at hc
  rcases hc with hc | rfl | rfl | hc | rfl
  · exact name_no10 h.1.2 c hc
  · decide
  · decide
  · exact esc_no10 c hc
  · decide
theorem labR_no10 : ∀ {l : List Lab.Lab}, (∀ x ∈ l, LbOk x) → ∀ c ∈ labR l, c ≠ 10
  | [], _, c, hc => by
    unfold labR at hc
    rw [List.mem_singleton.1 hc]; decide
  | x :: l, h, c, hc => by
    unfold labR at hc
    rcases List.mem_cons.1 hc with rfl | hc
    · decide
    · rcases List.mem_append.1 hc with hc | hc
      · exact labT_no10 (h x List.mem_cons_self) c hc
      · exact labR_no10 (fun y hy => h y (List.mem_cons_of_mem _ hy)) c hc
theorem labsT_no10 {l : List Lab.Lab} (h : ∀ x ∈ l, LbOk x) : ∀ c ∈ labsT l, c ≠ 10 := by
  intro c hc
  cases l with
  | nil => simp [labsT] at hc
  | cons x l =>
    unfold labsT at hc
    rcases List.mem_cons.1 hc with rfl | hc
    · decide
    · rcases List.mem_append.1 hc with hc | hc
      · exact labT_no10 (h x List.mem_cons_self) c hc
      · exact labR_no10 (fun y hy => h y (List.mem_cons_of_mem _ hy)) c hc
/-- a time as it is written -/
def TimeR (tt : Option (List UInt8)) (t : Option Int) : Prop := (tt = none ∧ t = none) ∨ ∃ s n, tt = some s ∧ t = some n ∧ (∀ c ∈ s, 43 ≤ c.toNat) ∧ s ≠ [] ∧ Num.intP s = some n ∧ -9007199254740992 ≤ n ∧ n ≤ 9007199254740992 ∧ s.length ≤ 30
/-- a line that is written of a set -/
def setT (s : List Lab.Lab) (ft : List UInt8) (tt : Option (List UInt8)) : List UInt8 := lineT (Lab.getL s nameB) (Lab.pickL s [nameB] false) ft tt
theorem no10_43 {s : List UInt8} (h : ∀ c ∈ s, 43 ≤ c.toNat) : ∀ c ∈ s, c ≠ 10 := fun c hc e => by
  have := h c hc
  subst e
  simp at this
theorem set_line {s : List Lab.Lab} (h : SetOk s) (hg : Lab.getL s nameB ≠ []) {v : Nat} {ft : List UInt8} (hf : TextR v ft) {tt : Option (List UInt8)} {t : Option Int} (ht : TimeR tt t) :
    lineR (setT s ft tt) = some (⟨Lab.getL s nameB, Lab.pickL s [nameB] false, v, t⟩, s) ∧ (∀ c ∈ setT s ft tt, c ≠ 10) ∧ ∃ c r, skipB (setT s ft tt) = c :: r ∧ c ≠ 35 := by
  have hnm : NmOk true (Lab.getL s nameB) := (fair_of (h.fair _ (getL_mem hg))).2.2.2 rfl hg
  have hlb : ∀ x ∈ Lab.pickL s [nameB] false, LbOk x := fun x hx => (fair_of (h.fair x (pickL_mem hx).1)).1
  have hnd : ((Lab.pickL s [nameB] false).map (·.1)).Nodup := (List.filter_sublist.map _).nodup h.once
  have hno : ∀ c ∈ setT s ft tt, c ≠ 10 := by
    intro c hc
    unfold setT lineT at hc
    simp only [List.mem_append, List.mem_cons] at hc
    rcases hc with hc | hc | rfl | hc
    · exact name_no10 hnm.2 c hc
    · exact labsT_no10 hlb c hc
    · decide
    · unfold numsT at hc
      rcases List.mem_append.1 hc with hc | hc
      · exact no10_43 (fun c hc => (hf.chars c hc).1) c hc
      · rcases ht with ⟨rfl, _⟩ | ⟨u, n, rfl, _, hu, _⟩
        · simp at hc
        · rcases List.mem_cons.1 hc with rfl | hc
          · decide
          · exact no10_43 hu c hc
  have hnl : ¬ 0 ≤ nlI (setT s ft tt) := fun h0 => by
    obtain ⟨i, hi⟩ : ∃ i : Nat, nlI (setT s ft tt) = i := ⟨(nlI (setT s ft tt)).toNat, by omega⟩
    exact hno 10 (List.mem_of_getElem? (Lib.indexByte_some hi).1) rfl
  have hbl : NoBl ft := fun c hc => blB_ge (hf.chars c hc).1
  have hsp : sampleP Num.intP (setT s ft tt) = some ⟨Lab.getL s nameB, Lab.pickL s [nameB] false, v, t⟩ := by
    refine line_law hnm hlb hnd hf.parse hbl hf.ne (fun e => ?_) ?_
    · obtain ⟨c, r, hcr⟩ : ∃ c r, ft = c :: r := List.exists_cons_of_ne_nil hf.ne
      rw [hcr] at e
      simp only [List.head?_cons, Option.some.injEq] at e
      have := (hf.chars c (by rw [hcr]; exact List.mem_cons_self)).2
      rw [e] at this
      simp at this
    · rcases ht with h | ⟨u, n, h1, h2, h3, h4, h5, h6, h7, -⟩
      · exact .inl h
      · exact .inr ⟨u, n, h1, h2, fun c hc => blB_ge (h3 c hc), h4, h5, h6, h7⟩
  refine ⟨?_, hno, ?_⟩
  · unfold lineR
    rw [if_neg hnl, hsp]
    simp only
    rw [any_no fun x hx => (pickL_mem hx).2, h.again hg]
    rfl
  · obtain ⟨c, r, hcr⟩ : ∃ c r, setT s ft tt = c :: r := List.exists_cons_of_ne_nil (by
      unfold setT lineT
      intro e
      exact hg (List.append_eq_nil_iff.1 e).1)
    refine ⟨c, r, ?_, ?_⟩
    · rw [← hcr]
      unfold setT lineT
      exact skip_no (hnm.head _).1
    · intro e
      subst e
      obtain ⟨h1, h2⟩ := hnm
      obtain ⟨d, q, hdq⟩ := List.exists_cons_of_ne_nil h1
      have : d = 35 := by
        unfold setT lineT at hcr
        rw [hdq] at hcr
        exact (List.cons.inj hcr).1
      rw [hdq, this, nameN] at h2
      simp [letB, isD] at h2
end Go.Proofs.YtcngoccnfmhhnaaGreatDoor
end
section
open Go Go.Vg Go.RowKit Go.Proofs Go.Proofs.YtcngoccnfmhhnaaGreatDoor
namespace Go.Proofs.YtcngoccnfmhhnaaGreatDoor
open Go.Nm

def i64C (x : Nat) : List Value := [.int .i64 x]
theorem i64_one (l : List Nat) : ∀ y ∈ l.map i64C, ∀ c ∈ y, c.oneCell' = true := by
  intro y hy c hc
  obtain ⟨n, _, rfl⟩ := List.mem_map.1 hy
  simp only [i64C, List.mem_cons, List.not_mem_nil, or_false] at hc
  subst hc; rfl
/-- a row of the reference's digits -/
structure Rt (w : World) (v : Value) (l : List Nat) : Prop where
  sl : Sli w v 1 (l.map i64C)
  nr : Nrm 10000 l
theorem Rt.to {w w' : World} {v : Value} {l : List Nat} (h : Rt w v l) (hx : Ext w w') : Rt w' v l := ⟨h.sl.to hx, h.nr⟩
theorem Rt.nil (w : World) : Rt w (.slice none 0 0) [] := ⟨Sli.nil _ _, Nrm.nil _⟩
theorem carry_bd {m : Nat} (hm : m ≤ 10000) : ∀ (l : List Nat) (c : Nat), (∀ x ∈ l, x < 10000) → c ≤ 2 ^ 60 → (mulR 10000 m l c).2 ≤ 2 ^ 60
  | [], c, _, hc => hc
  | x :: l, c, h, hc => by
    rw [mulR]
    refine carry_bd hm l _ (fun y hy => h y (List.mem_cons_of_mem _ hy)) ?_
    have h1 := h x (List.mem_cons_self ..)
    have : x * m ≤ 10000 * 10000 := Nat.mul_le_mul (by omega) hm
    omega
theorem dig4_step {f c : Nat} (h : c < 10000 ^ f) (h0 : 0 < c) : ∃ g, f = g + 1 ∧ dig4 f c = c % 10000 :: dig4 g (c / 10000) ∧ c / 10000 < 10000 ^ g := by
  cases f with
  | zero => simp at h; omega
  | succ g =>
    refine ⟨g, rfl, ?_, ?_⟩
    · rw [dig4, if_neg (by omega)]
    · apply Nat.div_lt_of_lt_mul
      rw [Nat.pow_succ, Nat.mul_comm] at h
      exact h
theorem dig4_zero (f : Nat) : dig4 f 0 = [] := by
  cases f with
  | zero => rfl
  | succ f => rw [dig4, if_pos rfl]
set_option maxHeartbeats 2000000 in
theorem timesR_ok (v : Value) (l : List Nat) (k c : Nat) (w : World) (hv : Rt w v l) (hl : l.length ≤ 1000000) (hk : k ≤ 10000) (hk0 : 0 < k) (hc : c ≤ 2 ^ 60) :
    Ret Tryz.prog 107 ⟨[v, .int .i64 k, .int .i64 c]⟩ w fun r w' => (Owns w' w.heap.size r 3 1 ((timesR k c l).map i64C) ∧ Nrm 10000 (timesR k c l)) ∧ Ext w w' := by
  have hvs := hv.sl
  have hll : (l.map i64C).length = l.length := List.length_map ..
  have hcb := fun i => carry_bd hk (l.take i) c (fun x hx => hv.nr.lt x (List.mem_of_mem_take hx)) hc
  refine ret_of_G Tryz.func107 rfl Tryz.ntmps107 rfl ?_
  simp only [argEnv]
  refine rn ?_
  refine (G.loop (fun x : Nat × Value => [(0, none, v), (1, none, .int .i64 k), (7, none, x.2), (8, none, .int .i64 ((mulR 10000 k (l.take x.1) c).2 : Nat)), (9, none, .int .i64 x.1)])
    (fun x W => Ext w W ∧ Owns W w.heap.size x.2 3 1 ((mulR 10000 k (l.take x.1) c).1.map i64C) ∧ x.1 ≤ l.length) (fun x => l.length - x.1) (0, .slice none 0 0) (by repeat (first | exact Sub.nil _ | refine Sub.cons rfl ?_)) ⟨Ext.refl _, Owns.nil _ _ _ _, Nat.zero_le _⟩ ?_)
  rintro ⟨i, ov⟩ W ⟨hx, ho, hi⟩
  simp only at ho hi
  have hvW := hvs.to hx
  have hci := hcb i
  have hrl := mulR_len 10000 k (l.take i) c
  rw [List.length_take, Nat.min_eq_left hi] at hrl
  show G _ _ [(0, none, v), (1, none, .int .i64 k), (7, none, ov), (8, none, .int .i64 ((mulR 10000 k (l.take i) c).2 : Nat)), (9, none, .int .i64 i)] _
  refine rn ?_
  rw [hll]
  refine rn ?_
  first | refine G.condD rfl (fun hc => ?_) (fun hc => ?_) | refine G.condN rfl (fun hc => ?_) (fun hc => ?_) | refine G.cond rfl (fun hc => ?_) (fun hc => ?_)
  · have hlt : i < l.length := by omega
    have hget : (l.map i64C)[i]? = some (i64C l[i]) := by rw [List.getElem?_map, List.getElem?_eq_getElem hlt]; rfl
    have hxl := hv.nr.lt l[i] (List.getElem_mem hlt)
    have hst := mulR_take 10000 k l c i hlt
    generalize l[i] = x at hget hxl hst
    generalize hR : (mulR 10000 k (l.take i) c) = R at *
    obtain ⟨row, cy⟩ := R
    simp only at hci hrl hst ho ⊢
    have hxm : x * k ≤ 10000 * 10000 := Nat.mul_le_mul (by omega) hk
    refine rn ?_
    refine sIa tb i ?_ (hj := fun _ => ⟨rfl, by rw [hll]; exact hlt⟩)
    refine rn ?_
    refine sAd tb (r := ((x * k : Nat) : Int)) ?_ (hp := (wrap_i64 (n := ((x : Nat) : Int) * ((k : Nat) : Int)) (by rw [← Int.natCast_mul]; omega) (by rw [← Int.natCast_mul]; omega)).trans (Int.natCast_mul ..).symm)
    refine rn ?_
    refine sAd tb (r := ((x * k + cy : Nat) : Int)) ?_ (hp := (wrap_i64 (n := ((x * k : Nat) : Int) + ((cy : Nat) : Int)) (by omega) (by omega)).trans (by omega))
    refine rn ?_
    have hyb : x * k + cy ≤ 2 ^ 61 := by omega
    generalize x * k + cy = y at *
    have hrem : ((y : Nat) : Int).tmod 10000 = ((y % 10000 : Nat) : Int) := (Int.tmod_eq_emod_of_nonneg (by omega)).trans (by omega)
    refine sRem hrem ?_
    refine sBs' tb ([y % 10000].map i64C) (fun us W2 ho2 hs2 hx2 => ?_) (hkl := by simp [i64C])
    have hx2s := hx2.size
    have hxs := hx.size
    refine sApp tb (ho.to hx2) ho2.sli (fun u3 W3 ho3 hg3 => ?_) (h1 := i64_one [_]) (hb := by simp only [List.length_map, List.length_cons, List.length_nil, hrl]; omega) (hl := by simp only [List.length_map, List.length_cons, List.length_nil, hrl]; omega)
    have hx3 : Ext w W3 := hg3.below w (hx.trans hx2)
    refine rn ?_
    have hquo : IntKind.i64.wrap (((y : Nat) : Int).tdiv 10000) = ((y / 10000 : Nat) : Int) := by
      rw [Int.tdiv_eq_ediv_of_nonneg (by omega)]
      exact (wrap_i64 (n := ((y : Nat) : Int) / 10000) (by omega) (by omega)).trans (by omega)
    refine sQuo hquo ?_
    refine rn ?_
    refine sAd tb (r := ((i + 1 : Nat) : Int)) ?_
    refine rn ?_
    refine G.lp (x := (i, ov)) (i + 1, u3) ?_ ⟨hx3, ?_, by simp only; omega⟩ (by simp only; omega)
    · simp only [hst]; exact (by repeat (first | exact Sub.nil _ | refine Sub.cons rfl ?_))
    · simp only [hst]
      rw [← List.map_append] at ho3
      exact ho3
  · have hie : i = l.length := by omega
    rw [hie, List.take_length] at ho hci hrl
    rw [hie, List.take_length]
    have hval : timesR k c l = (mulR 10000 k l c).1 ++ dig4 20 (mulR 10000 k l c).2 := rfl
    have h20 : (mulR 10000 k l c).2 < 10000 ^ 20 := Nat.lt_of_le_of_lt hci (by decide)
    have hnr := timesR_nrm (k := k) (more := c) hk0 hv.nr h20
    generalize hR : (mulR 10000 k l c) = R at *
    obtain ⟨row, cy⟩ := R
    simp only at hci hrl hval ho h20 ⊢
    refine rn ?_
    refine (G.loop (fun x : Nat × Nat × List Nat × Value => [(7, none, x.2.2.2), (8, none, .int .i64 (x.2.1 : Nat))])
      (fun x W => Ext w W ∧ Owns W w.heap.size x.2.2.2 3 1 ((row ++ x.2.2.1).map i64C) ∧ x.2.1 < 10000 ^ x.1 ∧ x.2.1 ≤ 2 ^ 60 ∧ x.2.2.1 ++ dig4 x.1 x.2.1 = dig4 20 cy ∧ x.2.2.1.length + x.1 ≤ 20) (fun x => x.1) (20, cy, [], ov) (by repeat (first | exact Sub.nil _ | refine Sub.cons rfl ?_)) ⟨hx, by simpa using ho, h20, hci, rfl, Nat.le_refl _⟩ ?_)
    clear hx ho hvW
    rintro ⟨f, cy2, pre, ov⟩ W ⟨hx, ho, hcf, hc60, hd, hpl⟩
    simp only at ho hcf hc60 hd hpl
    show G _ _ [(7, none, ov), (8, none, .int .i64 (cy2 : Nat))] _
    refine rn ?_
    first | refine G.condD rfl (fun hc => ?_) (fun hc => ?_) | refine G.condN rfl (fun hc => ?_) (fun hc => ?_) | refine G.cond rfl (fun hc => ?_) (fun hc => ?_)
    · obtain ⟨g, rfl, hds, hcg⟩ := dig4_step hcf (by omega)
      rw [hds] at hd
      have hrem : ((cy2 : Nat) : Int).tmod 10000 = ((cy2 % 10000 : Nat) : Int) := (Int.tmod_eq_emod_of_nonneg (by omega)).trans (by omega)
      have hquo : IntKind.i64.wrap (((cy2 : Nat) : Int).tdiv 10000) = ((cy2 / 10000 : Nat) : Int) := by
        rw [Int.tdiv_eq_ediv_of_nonneg (by omega)]
        exact (wrap_i64 (n := ((cy2 : Nat) : Int) / 10000) (by omega) (by omega)).trans (by omega)
      refine rn ?_
      refine sRem hrem ?_
      refine sBs' tb ([cy2 % 10000].map i64C) (fun us W2 ho2 hs2 hx2 => ?_) (hkl := by simp [i64C])
      have hx2s := hx2.size
      have hxs := hx.size
      refine sApp tb (ho.to hx2) ho2.sli (fun u3 W3 ho3 hg3 => ?_) (h1 := i64_one [_]) (hb := by simp only [List.length_map, List.length_append, List.length_cons, List.length_nil, hrl]; omega) (hl := by simp only [List.length_map, List.length_append, List.length_cons, List.length_nil, hrl]; omega)
      have hx3 : Ext w W3 := hg3.below w (hx.trans hx2)
      refine rn ?_
      refine sQuo hquo ?_
      refine rn ?_
      refine G.lp (x := (g + 1, cy2, pre, ov)) (g, cy2 / 10000, pre ++ [cy2 % 10000], u3) (by repeat (first | exact Sub.nil _ | refine Sub.cons rfl ?_)) ⟨hx3, ?_, hcg, by simp only; omega, by simp only; rw [List.append_assoc]; exact hd, by simp only [List.length_append, List.length_singleton]; omega⟩ (by simp only; omega)
      rw [← List.map_append, List.append_assoc] at ho3
      exact ho3
    · have h0 : cy2 = 0 := by omega
      rw [h0, dig4_zero, List.append_nil] at hd
      refine rn ?_
      refine G.ret1 rfl rfl rfl rfl ?_
      refine ⟨⟨?_, hnr⟩, hx⟩
      rw [hval, ← hd]
      exact ho
end Go.Proofs.YtcngoccnfmhhnaaGreatDoor
end
section
open Go Go.Vg Go.RowKit Go.Proofs Go.Proofs.YtcngoccnfmhhnaaGreatDoor
namespace Go.Proofs.YtcngoccnfmhhnaaGreatDoor
open Go.Nm

theorem dig4_len : ∀ f n, (dig4 f n).length ≤ f
  | 0, _ => Nat.le_refl _
  | f + 1, n => by
    rw [dig4]
    split
    · exact Nat.zero_le _
    · have := dig4_len f (n / 10000)
      simp only [List.length_cons]; omega
theorem timesR_len (k c : Nat) (l : List Nat) : (timesR k c l).length ≤ l.length + 20 := by
  unfold timesR
  have := dig4_len 20 (mulR 10000 k l c).2
  rw [List.length_append, mulR_len]
  omega
/-- times, told by numbers -/
theorem timesO_ok (v : Value) (l : List Nat) (k c : Nat) (w : World) (hv : Rt w v l) (hl : l.length ≤ 1000000) (hk : k ≤ 10000) (hk0 : 0 < k) (hc : c ≤ 2 ^ 60) :
    Ret Tryz.prog 107 ⟨[v, .int .i64 k, .int .i64 c]⟩ w fun r w' => (∃ m, Owns w' w.heap.size r 3 1 (m.map i64C) ∧ Nrm 10000 m ∧ vL 10000 m = vL 10000 l * k + c ∧ m.length ≤ l.length + 20) ∧ Ext w w' := by
  refine (timesR_ok v l k c w hv hl hk hk0 hc).mono ?_
  rintro r w' ⟨⟨hr, hn⟩, hx⟩
  refine ⟨⟨_, hr, hn, ?_, timesR_len k c l⟩, hx⟩
  refine timesR_val (Nat.lt_of_le_of_lt (carry_bd hk l c hv.nr.lt hc) (by decide))
theorem timesN_ok (v : Value) (l : List Nat) (k c : Nat) (w : World) (hv : Rt w v l) (hl : l.length ≤ 1000000) (hk : k ≤ 10000) (hk0 : 0 < k) (hc : c ≤ 2 ^ 60) :
    Ret Tryz.prog 107 ⟨[v, .int .i64 k, .int .i64 c]⟩ w fun r w' => (∃ m, Rt w' r m ∧ vL 10000 m = vL 10000 l * k + c ∧ m.length ≤ l.length + 20) ∧ Ext w w' := by
  refine (timesO_ok v l k c w hv hl hk hk0 hc).mono ?_
  rintro r w' ⟨⟨m, h1, h2, h3, h4⟩, hx⟩
  exact ⟨⟨m, ⟨h1.sli, h2⟩, h3, h4⟩, hx⟩
theorem ofR_ok (n : Nat) (w : World) (hn : n ≤ 2 ^ 60) : Ret Tryz.prog 132 ⟨[.int .i64 n]⟩ w fun r w' => (∃ m, Rt w' r m ∧ vL 10000 m = n ∧ m.length ≤ 20) ∧ Ext w w' := by
  refine ret_of_G Tryz.func132 rfl Tryz.ntmps132 rfl ?_
  simp only [argEnv]
  refine rn ?_
  refine sCall c107 (timesN_ok (.slice none 0 0) [] 1 n w (Rt.nil w) (Nat.zero_le _) (by decide) (by decide) hn) ?_
  rintro r w' ⟨⟨m, hm, he, hl⟩, hx⟩
  refine rn ?_
  refine G.ret1 rfl rfl rfl rfl ?_
  exact ⟨⟨m, hm, by rw [he]; simp [vL], by simpa using hl⟩, hx⟩
set_option maxHeartbeats 2000000 in
theorem power_ok (v : Value) (l : List Nat) (k n : Nat) (w : World) (hv : Rt w v l) (hl : l.length ≤ 100000) (hk : k = 2 ∨ k = 10) (hn : n ≤ 10000) :
    Ret Tryz.prog 133 ⟨[v, .int .i64 k, .int .i64 n]⟩ w fun r w' => (∃ m, Rt w' r m ∧ vL 10000 m = vL 10000 l * k ^ n ∧ m.length ≤ l.length + 20 * n) ∧ Ext w w' := by
  refine ret_of_G Tryz.func133 rfl Tryz.ntmps133 rfl ?_
  simp only [argEnv]
  refine rn ?_
  refine (G.loop (fun x : Nat × Value × List Nat => [(0, none, x.2.1), (1, none, .int .i64 k), (2, none, .int .i64 x.1)])
    (fun x W => Ext w W ∧ Rt W x.2.1 x.2.2 ∧ vL 10000 x.2.2 * k ^ x.1 = vL 10000 l * k ^ n ∧ x.2.2.length + 20 * x.1 ≤ l.length + 20 * n ∧ x.1 ≤ n) (fun x => x.1) (n, v, l) (by repeat (first | exact Sub.nil _ | refine Sub.cons rfl ?_)) ⟨Ext.refl _, hv, rfl, Nat.le_refl _, Nat.le_refl _⟩ ?_)
  rintro ⟨n2, v2, l2⟩ W ⟨hx, hv2, he, hlb, hn2⟩
  simp only at hv2 he hlb hn2
  show G _ _ [(0, none, v2), (1, none, .int .i64 k), (2, none, .int .i64 n2)] _
  refine rn ?_
  have hbe : (decide (((k : Nat) : Int) = 2) && decide ((13 : Int) ≤ ((n2 : Nat) : Int))) = decide (k = 2 ∧ 13 ≤ n2) := by
    rw [Bool.eq_iff_iff]
    simp only [Bool.and_eq_true, decide_eq_true_eq]
    omega
  rw [hbe]
  by_cases h2 : k = 2 ∧ 13 ≤ n2
  · rw [decide_eq_true h2]
    refine rn ?_
    refine sCall c107 (timesN_ok v2 l2 8192 0 W hv2 (by omega) (by decide) (by decide) (by decide)) ?_
    rintro v3 W3 ⟨⟨l3, hv3, he3, hl3⟩, hx3⟩
    refine rn ?_
    refine sAd tb (r := ((n2 - 13 : Nat) : Int)) ?_ (hp := (wrap_i64 (n := ((n2 : Nat) : Int) - 13) (by omega) (by omega)).trans (by omega))
    refine rn ?_
    refine G.lp (x := (n2, v2, l2)) (n2 - 13, v3, l3) (by repeat (first | exact Sub.nil _ | refine Sub.cons rfl ?_)) ⟨hx.trans hx3, hv3, ?_, by simp only; omega, by simp only; omega⟩ (by simp only; omega)
    simp only
    rw [he3, ← he, h2.1, Nat.add_zero, Nat.mul_assoc]
    congr 1
    rw [show 8192 = 2 ^ 13 from rfl, ← Nat.pow_add]
    congr 1
    omega
  rw [decide_eq_false h2]
  have hv2s := hv2.sl
  have hll : (l2.map i64C).length = l2.length := List.length_map ..
  refine rn ?_
  rw [hll]
  refine rn ?_
  have hbe2 : (decide (((k : Nat) : Int) = 10) && decide ((4 : Int) ≤ ((n2 : Nat) : Int)) && decide ((0 : Int) < ((l2.length : Nat) : Int))) = decide (k = 10 ∧ 4 ≤ n2 ∧ 0 < l2.length) := by
    rw [Bool.eq_iff_iff]
    simp only [Bool.and_eq_true, decide_eq_true_eq]
    omega
  rw [hbe2]
  refine G.join (fun x : Value × List Nat × Nat => [(0, none, x.1), (1, none, .int .i64 k), (2, none, .int .i64 x.2.2)]) (fun x W' => Ext w W' ∧ Rt W' x.1 x.2.1 ∧ vL 10000 x.2.1 * k ^ x.2.2 = vL 10000 l * k ^ n ∧ x.2.1.length + 20 * x.2.2 ≤ l.length + 20 * n ∧ x.2.2 ≤ n) ?_ ?_
  rotate_left
  · by_cases h4 : k = 10 ∧ 4 ≤ n2 ∧ 0 < l2.length
    · rw [decide_eq_true h4]
      obtain ⟨h10, h44, hpos⟩ := h4
      refine rn ?_
      have hquo : IntKind.i64.wrap (((n2 : Nat) : Int).tdiv 4) = ((n2 / 4 : Nat) : Int) := by
        rw [Int.tdiv_eq_ediv_of_nonneg (by omega)]
        exact (wrap_i64 (n := ((n2 : Nat) : Int) / 4) (by omega) (by omega)).trans (by omega)
      have hrem : ((n2 : Nat) : Int).tmod 4 = ((n2 % 4 : Nat) : Int) := (Int.tmod_eq_emod_of_nonneg (by omega)).trans (by omega)
      refine sQuo hquo ?_
      refine sMkS tb (z := .int .i64 0) (bytes := 8) (m := ((n2 / 4 : Nat) : Int)) (n2 / 4) (fun ov W1 ho1 hs1 hx1 _ => ?_)
      have ho1' : Owns W1 W.heap.size ov 3 1 ((List.replicate (n2 / 4) 0).map i64C) := by
        have : (List.replicate (n2 / 4) 0).map i64C = (List.replicate (n2 / 4) (Value.int .i64 0)).map fun u => [u] := by simp [i64C]
        rw [this]; exact ho1
      clear ho1
      have hxs := hx.size
      have hx1s := hx1.size
      refine rn ?_
      refine sApp tb ho1' (hv2s.to hx1) (fun u3 W3 ho3 hg3 => ?_) (h1 := i64_one _) (hb := by simp only [List.length_map, List.length_replicate]; omega) (hl := by simp only [List.length_map, List.length_replicate]; omega)
      have hx3 : Ext W W3 := hg3.below W hx1
      rw [← List.map_append] at ho3
      refine rn ?_
      refine sRem hrem ?_
      refine rn ?_
      refine G.met (u3, List.replicate (n2 / 4) 0 ++ l2, n2 % 4) (by repeat (first | exact Sub.nil _ | refine Sub.cons rfl ?_)) ⟨hx.trans hx3, ⟨ho3.sli, zeros_nrm (by decide) hv2.nr (List.length_pos_iff.1 hpos) _⟩, ?_, by simp only [List.length_append, List.length_replicate]; omega, by simp only; omega⟩
      simp only
      rw [zeros_val, ← he, h10, Nat.mul_comm (10000 ^ (n2 / 4)), Nat.mul_assoc]
      congr 1
      rw [show 10000 = 10 ^ 4 from rfl, ← Nat.pow_mul, ← Nat.pow_add]
      congr 1
      omega
    · rw [decide_eq_false h4]
      refine rn ?_
      exact G.met (v2, l2, n2) (by repeat (first | exact Sub.nil _ | refine Sub.cons rfl ?_)) ⟨hx, hv2, he, hlb, hn2⟩
  clear hx hv2 he hlb hn2 hbe hbe2 h2 hll hv2s
  rintro ⟨v3, l3, n3⟩ W3 ⟨hx, hv3, he, hlb, hn3⟩
  simp only at hv3 he hlb hn3
  show G _ _ [(0, none, v3), (1, none, .int .i64 k), (2, none, .int .i64 n3)] _
  refine rn ?_
  refine (G.loop (fun x : Nat × Value × List Nat => [(0, none, x.2.1), (1, none, .int .i64 k), (2, none, .int .i64 n3), (7, none, .int .i64 x.1)])
    (fun x W => Ext w W ∧ Rt W x.2.1 x.2.2 ∧ vL 10000 x.2.2 = vL 10000 l3 * k ^ x.1 ∧ x.2.2.length ≤ l3.length + 20 * x.1 ∧ x.1 ≤ n3) (fun x => n3 - x.1) (0, v3, l3) (by repeat (first | exact Sub.nil _ | refine Sub.cons rfl ?_)) ⟨hx, hv3, by simp, by simp, Nat.zero_le _⟩ ?_)
  clear hx hv3
  rintro ⟨i, v4, l4⟩ W ⟨hx, hv4, he4, hlb4, hi⟩
  simp only at hv4 he4 hlb4 hi
  show G _ _ [(0, none, v4), (1, none, .int .i64 k), (2, none, .int .i64 n3), (7, none, .int .i64 i)] _
  have hv4s := hv4.sl
  have hll : (l4.map i64C).length = l4.length := List.length_map ..
  refine rn ?_
  rw [hll]
  refine rn ?_
  have hbe : (decide (((i : Nat) : Int) < ((n3 : Nat) : Int)) && decide ((0 : Int) < ((l4.length : Nat) : Int))) = decide (i < n3 ∧ 0 < l4.length) := by
    rw [Bool.eq_iff_iff]
    simp only [Bool.and_eq_true, decide_eq_true_eq]
    omega
  rw [hbe]
  by_cases hlt : i < n3 ∧ 0 < l4.length
  · rw [decide_eq_true hlt]
    refine rn ?_
    refine sCall c107 (timesN_ok v4 l4 k 0 W hv4 (by omega) (by omega) (by omega) (by decide)) ?_
    rintro v5 W5 ⟨⟨l5, hv5, he5, hl5⟩, hx5⟩
    refine rn ?_
    refine sAd tb (r := ((i + 1 : Nat) : Int)) ?_
    refine rn ?_
    refine G.lp (x := (i, v4, l4)) (i + 1, v5, l5) (by repeat (first | exact Sub.nil _ | refine Sub.cons rfl ?_)) ⟨hx.trans hx5, hv5, ?_, by simp only; omega, by simp only; omega⟩ (by simp only; omega)
    simp only
    rw [he5, he4, Nat.add_zero, Nat.pow_succ, Nat.mul_assoc]
  · rw [decide_eq_false hlt]
    refine rn ?_
    refine G.ret1 rfl rfl rfl rfl ?_
    refine ⟨⟨l4, hv4, ?_, by omega⟩, hx⟩
    by_cases h0 : l4.length = 0
    · have h00 : l4 = [] := List.length_eq_zero_iff.1 h0
      rw [h00] at he4 ⊢
      have hk0 : 0 < k := by omega
      have : vL 10000 l3 = 0 := by
        have e := he4.symm
        simp only [vL] at e
        rcases Nat.mul_eq_zero.1 e with h | h
        · exact h
        · have := Nat.pow_pos hk0 (n := i); omega
      rw [← he, this]
      simp [vL]
    · rw [he4, ← he, show i = n3 by omega]
end Go.Proofs.YtcngoccnfmhhnaaGreatDoor
end
section
open Go Go.Vg Go.RowKit Go.Proofs Go.Proofs.YtcngoccnfmhhnaaGreatDoor
namespace Go.Proofs.YtcngoccnfmhhnaaGreatDoor
open Go.Nm

set_option maxHeartbeats 2000000 in
theorem cmpR_ok (v u : Value) (l m : List Nat) (w : World) (hv : Rt w v l) (hu : Rt w u m) (_ : l.length ≤ 1000000) (hm : m.length ≤ 1000000) :
    Ret Tryz.prog 134 ⟨[v, u]⟩ w fun r w' => r = .int .i64 (cmpV (vL 10000 l) (vL 10000 m)) ∧ Ext w w' := by
  have hvs := hv.sl
  have hus := hu.sl
  have hll : (l.map i64C).length = l.length := List.length_map ..
  have hml : (m.map i64C).length = m.length := List.length_map ..
  refine ret_of_G Tryz.func134 rfl Tryz.ntmps134 rfl ?_
  simp only [argEnv]
  refine rn ?_
  rw [hll, hml]
  by_cases hlm : l.length = m.length
  rotate_left
  · rw [decide_eq_false (p := ((l.length : Nat) : Int) = ((m.length : Nat) : Int)) (by omega)]
    refine rn ?_
    rw [hll, hml]
    refine rn ?_
    first | refine G.condD rfl (fun hc => ?_) (fun hc => ?_) | refine G.condN rfl (fun hc => ?_) (fun hc => ?_) | refine G.cond rfl (fun hc => ?_) (fun hc => ?_)
    · have hlt : vL 10000 l < vL 10000 m := hv.nr.len_lt (by decide) hu.nr (by omega)
      have hc1 : cmpV (vL 10000 l) (vL 10000 m) = -1 := by unfold cmpV; rw [if_pos hlt]
      rw [hc1]
      refine rn ?_
      refine G.ret1 rfl rfl rfl rfl ?_
      exact ⟨rfl, Ext.refl _⟩
    · have hlt : vL 10000 m < vL 10000 l := hu.nr.len_lt (by decide) hv.nr (by omega)
      have hc1 : cmpV (vL 10000 l) (vL 10000 m) = 1 := by unfold cmpV; rw [if_neg (by omega), if_pos hlt]
      rw [hc1]
      refine rn ?_
      refine G.ret1 rfl rfl rfl rfl ?_
      exact ⟨rfl, Ext.refl _⟩
  rw [decide_eq_true (p := ((l.length : Nat) : Int) = ((m.length : Nat) : Int)) (by omega)]
  refine rn ?_
  rw [hll]
  refine sAd tb (r := ((l.length : Nat) : Int) - 1) (hp := wrap_i64 (n := ((l.length : Nat) : Int) - 1) (by omega) (by omega)) ?_
  refine rn ?_
  refine (G.loop (fun k : Nat => [(0, none, v), (1, none, u), (5, none, .int .i64 ((k : Nat) - 1 : Int))]) (fun k W => Ext w W ∧ k ≤ l.length ∧ l.drop k = m.drop k) (fun k => k) l.length (by repeat (first | exact Sub.nil _ | refine Sub.cons rfl ?_)) ⟨Ext.refl _, Nat.le_refl _, by rw [List.drop_length, hlm, List.drop_length]⟩ ?_)
  rintro k W ⟨hx, hk, hd⟩
  have hvW := hvs.to hx
  have huW := hus.to hx
  refine rn ?_
  first | refine G.condD rfl (fun hc => ?_) (fun hc => ?_) | refine G.condN rfl (fun hc => ?_) (fun hc => ?_) | refine G.cond rfl (fun hc => ?_) (fun hc => ?_)
  · obtain ⟨j, rfl⟩ : ∃ j, k = j + 1 := ⟨k - 1, by omega⟩
    have hj1 : j < l.length := by omega
    have hj2 : j < m.length := by omega
    have hg1 : (l.map i64C)[j]? = some (i64C l[j]) := by rw [List.getElem?_map, List.getElem?_eq_getElem hj1]; rfl
    have hg2 : (m.map i64C)[j]? = some (i64C m[j]) := by rw [List.getElem?_map, List.getElem?_eq_getElem hj2]; rfl
    have hlt1 : l[j] < m[j] → vL 10000 l < vL 10000 m := cmp_at hv.nr.lt hu.nr.lt hj1 hj2 hd
    have hlt2 : m[j] < l[j] → vL 10000 m < vL 10000 l := cmp_at hu.nr.lt hv.nr.lt hj2 hj1 hd.symm
    have hdr : l[j] = m[j] → l.drop j = m.drop j := fun h => by rw [List.drop_eq_getElem_cons hj1, List.drop_eq_getElem_cons hj2, h, hd]
    generalize l[j] = x at *
    generalize m[j] = y at *
    rw [show ((j + 1 : Nat) : Int) - 1 = ((j : Nat) : Int) by omega]
    refine rn ?_
    refine G.regionM [(0, true), (1, true), (2, true), (3, true), (4, true), (5, true), (6, true), (7, true), (8, true)] (Ext W) (by kernel_rfl) (by kernel_rfl) rfl mixed (Ext.drew W) rfl ?_
    refine rd ?_
    refine dIa tb j ?_ (hj := fun _ => ⟨rfl, by rw [hll]; exact hj1⟩)
    refine rd ?_
    refine dIa tb j ?_ (hj := fun _ => ⟨rfl, by rw [hml]; exact hj2⟩)
    refine rd ?_
    refine GM.nil ?_
    have hx2 := hx.drew'
    by_cases hxy : x = y
    rotate_left
    · rw [decide_eq_false (p := ((x : Nat) : Int) = ((y : Nat) : Int)) (by omega)]
      refine rn ?_
      have hvW2 := hvs.to hx2
      have huW2 := hus.to hx2
      clear hvW huW
      refine G.regionM [(0, true), (1, true), (2, true), (3, true), (4, true), (5, true), (6, true), (7, true), (8, true)] (Ext W.drew) (by kernel_rfl) (by kernel_rfl) rfl mixed (Ext.drew W.drew) rfl ?_
      refine rd ?_
      refine dIa tb j ?_ (hj := fun _ => ⟨rfl, by rw [hll]; exact hj1⟩)
      refine rd ?_
      refine dIa tb j ?_ (hj := fun _ => ⟨rfl, by rw [hml]; exact hj2⟩)
      refine rd ?_
      refine GM.nil ?_
      have hx3 := hx2.drew'
      first | refine G.condD rfl (fun hc => ?_) (fun hc => ?_) | refine G.condN rfl (fun hc => ?_) (fun hc => ?_) | refine G.cond rfl (fun hc => ?_) (fun hc => ?_)
      · have hlt := hlt1 (by omega)
        have hc1 : cmpV (vL 10000 l) (vL 10000 m) = -1 := by unfold cmpV; rw [if_pos hlt]
        rw [hc1]
        refine rn ?_
        refine G.ret1 rfl rfl rfl rfl ?_
        exact ⟨rfl, hx3⟩
      · have hlt := hlt2 (by omega)
        have hc1 : cmpV (vL 10000 l) (vL 10000 m) = 1 := by unfold cmpV; rw [if_neg (by omega), if_pos hlt]
        rw [hc1]
        refine rn ?_
        refine G.ret1 rfl rfl rfl rfl ?_
        exact ⟨rfl, hx3⟩
    rw [decide_eq_true (p := ((x : Nat) : Int) = ((y : Nat) : Int)) (by omega)]
    refine rn ?_
    refine sAd tb (r := ((j : Nat) : Int) - 1) (hp := wrap_i64 (n := ((j : Nat) : Int) - 1) (by omega) (by omega)) ?_
    refine rn ?_
    exact G.lp (x := j + 1) j (by repeat (first | exact Sub.nil _ | refine Sub.cons rfl ?_)) ⟨hx2, by omega, hdr hxy⟩ (by omega)
  · have hk0 : k = 0 := by omega
    subst hk0
    rw [List.drop_zero, List.drop_zero] at hd
    subst hd
    have hc1 : cmpV (vL 10000 l) (vL 10000 l) = 0 := cmpV_eq.2 rfl
    rw [hc1]
    refine rn ?_
    refine G.ret1 rfl rfl rfl rfl ?_
    exact ⟨rfl, hx⟩
set_option maxHeartbeats 2000000 in
theorem parts_ok (b : Nat) (w : World) (hb : b < 2 ^ 63) : Ret Tryz.prog 130 ⟨[.int .u64 b]⟩ w fun r w' => r = .tuple ⟨[.int .i64 (mB b : Nat), .int .i64 ((kB b : Int) - 1074)]⟩ ∧ Ext w w' := by
  have hmk := mB_mask b
  have hand := and_low64 b 52 (by omega) (by decide)
  have hand2 := and_low64 (b / 2 ^ 52) 11 (by omega) (by decide)
  rw [show ((2 ^ 52 - 1 : Nat) : Int) = 4503599627370495 by decide] at hand
  rw [show ((2 ^ 11 - 1 : Nat) : Int) = 2047 by decide] at hand2
  have hk : kB b = b / 2 ^ 52 - 1 := rfl
  refine ret_of_G Tryz.func130 rfl Tryz.ntmps130 rfl ?_
  simp only [argEnv]
  refine rn ?_
  rw [hand]
  refine sCv tb (r := ((b % 2 ^ 52 : Nat) : Int)) ?_
  refine rn ?_
  refine sShr (n := 52) (shr_nat b 52) ?_
  refine rn ?_
  rw [hand2]
  refine sCv tb (r := ((b / 2 ^ 52 : Nat) : Int)) ?_ (hr := (wrap_i64 (n := ((b / 2 ^ 52 % 2 ^ 11 : Nat) : Int)) (by omega) (by omega)).trans (by omega))
  refine rn ?_
  by_cases h0 : b / 2 ^ 52 = 0
  · rw [if_pos h0] at hmk
    rw [decide_eq_true (p := ((b / 2 ^ 52 : Nat) : Int) = 0) (by omega)]
    refine rn ?_
    refine G.ret2 rfl rfl rfl rfl rfl ?_
    exact ⟨by rw [hmk, hk, h0]; rfl, Ext.refl _⟩
  · rw [if_neg h0] at hmk
    rw [decide_eq_false (p := ((b / 2 ^ 52 : Nat) : Int) = 0) (by omega)]
    refine rn ?_
    refine sAd tb (r := ((mB b : Nat) : Int)) ?_ (hp := (wrap_i64 (n := ((b % 2 ^ 52 : Nat) : Int) + 4503599627370496) (by omega) (by omega)).trans (by omega))
    refine rn ?_
    refine sAd tb (r := (kB b : Int) - 1074) ?_ (hp := (wrap_i64 (n := ((b / 2 ^ 52 : Nat) : Int) - 1075) (by omega) (by omega)).trans (by omega))
    refine rn ?_
    refine G.ret2 rfl rfl rfl rfl rfl ?_
    exact ⟨rfl, Ext.refl _⟩
set_option maxHeartbeats 2000000 in
theorem below_ok (m : Nat) (e : Int) (v : Value) (l : List Nat) (x : Int) (w : World) (hv : Rt w v l) (hl : l.length ≤ 10000) (hm : m ≤ 2 ^ 60) (he1 : -2000 ≤ e) (he2 : e ≤ 2000) (hx1 : -5000 ≤ x) (hx2 : x ≤ 5000) :
    Ret Tryz.prog 131 ⟨[.int .i64 m, .int .i64 e, .agg ⟨[v, .int .i64 x]⟩]⟩ w fun r w' => r = .int .i64 (belowP m e (vL 10000 l) x) ∧ Ext w w' := by
  have hvs := hv.sl
  refine ret_of_G Tryz.func131 rfl Tryz.ntmps131 rfl ?_
  simp only [argEnv]
  refine rn ?_
  refine sBox (us := [v, .int .i64 x]) (fun W1 hb1 hs1 hx1 => ?_) (hv := rfl)
  refine rn ?_
  refine G.regionM [(0, true), (2, true), (3, true), (1, false), (4, true), (5, true)] (Ext W1) (by kernel_rfl) (by kernel_rfl) rfl mixed (Ext.drew W1) rfl ?_
  refine rd ?_
  refine GM.eff (Step.callF rfl rfl rfl c132 rfl (ofR_ok m _ hm) (fun va W2 hq => ?_))
  obtain ⟨⟨la, hra, hea, hla⟩, hx2⟩ := hq
  refine ⟨(Ext.drew W1).trans hx2, ?_⟩
  refine rd ?_
  refine GM.nil ?_
  have hx12 := (Ext.drew W1).trans hx2
  have hx02 := hx1.trans hx12
  have hb2 := hb1.to hx12
  have hrb := hv.to hx02
  clear hb1 hx12 hx2 hvs hs1
  obtain ⟨b0, hb0⟩ : ∃ b, b = w.heap.size := ⟨_, rfl⟩
  refine rn ?_
  refine G.join (fun y : Value × List Nat × Value × List Nat => [(5, none, ptr w.heap.size), (7, none, y.1), (8, none, y.2.2.1)]) (fun y W' => Ext w W' ∧ Bx W' w.heap.size [v, .int .i64 x] ∧ Rt W' y.1 y.2.1 ∧ Rt W' y.2.2.1 y.2.2.2 ∧ vL 10000 y.2.1 = m * 2 ^ e.toNat ∧ vL 10000 y.2.2.2 = vL 10000 l * 2 ^ (-e).toNat ∧ y.2.1.length ≤ 50000 ∧ y.2.2.2.length ≤ 50000) ?_ ?_
  rotate_left
  · by_cases h0 : 0 < e
    · rw [decide_eq_true h0]
      obtain ⟨n, hn⟩ : ∃ n : Nat, (n : Int) = e := ⟨e.toNat, by omega⟩
      rw [← hn]
      refine rn ?_
      refine sCall c133 (power_ok va la 2 n W2 hra (by omega) (.inl rfl) (by omega)) ?_
      rintro v3 W3 ⟨⟨l3, h3, e3, k3⟩, hx3⟩
      refine rn ?_
      refine G.met (v3, l3, v, l) (by repeat (first | exact Sub.nil _ | refine Sub.cons rfl ?_)) ⟨hx02.trans hx3, hb2.to hx3, h3, hrb.to hx3, ?_, ?_, by simp only; omega, by simp only; omega⟩
      · simp only; rw [e3, hea]; rfl
      · simp only
        rw [show (-(n : Int)).toNat = 0 by omega, Nat.pow_zero, Nat.mul_one]
    · rw [decide_eq_false h0]
      obtain ⟨n, hn⟩ : ∃ n : Nat, (n : Int) = -e := ⟨(-e).toNat, by omega⟩
      have hne : e = -(n : Int) := by omega
      subst hne
      refine rn ?_
      refine sNeg ?_ (hr := wrap_i64 (by omega) (by omega))
      rw [show 0 - -(n : Int) = (n : Int) by omega]
      refine sCall c133 (power_ok v l 2 n W2 hrb (by omega) (.inl rfl) (by omega)) ?_
      rintro v3 W3 ⟨⟨l3, h3, e3, k3⟩, hx3⟩
      refine rn ?_
      refine G.met (va, la, v3, l3) (by repeat (first | exact Sub.nil _ | refine Sub.cons rfl ?_)) ⟨hx02.trans hx3, hb2.to hx3, hra.to hx3, h3, ?_, ?_, by simp only; omega, by simp only; omega⟩
      · simp only
        rw [hea, show (-(n : Int)).toNat = 0 by omega, Nat.pow_zero, Nat.mul_one]
      · simp only; rw [e3, show (- -(n : Int)).toNat = n by omega]
  clear hra hea hla hrb hb2 hx02 hx1
  rintro ⟨va, la, vb, lb⟩ W4 ⟨hx4, hb4, hra, hrb, hea, heb, hla, hlb⟩
  simp only at hra hrb hea heb hla hlb
  show G _ _ [(5, none, ptr w.heap.size), (7, none, va), (8, none, vb)] _
  refine rn ?_
  unfold belowP
  refine G.join (fun y : Value × List Nat × Value × List Nat => [(7, none, y.1), (8, none, y.2.2.1)]) (fun y W' => Ext w W' ∧ Rt W' y.1 y.2.1 ∧ Rt W' y.2.2.1 y.2.2.2 ∧ vL 10000 y.2.1 = m * 2 ^ e.toNat * 10 ^ (-x).toNat ∧ vL 10000 y.2.2.2 = vL 10000 l * 2 ^ (-e).toNat * 10 ^ x.toNat ∧ y.2.1.length ≤ 1000000 ∧ y.2.2.2.length ≤ 1000000) ?_ ?_
  rotate_left
  · by_cases h0 : 0 < x
    · rw [decide_eq_true h0]
      obtain ⟨n, hn⟩ : ∃ n : Nat, (n : Int) = x := ⟨x.toNat, by omega⟩
      subst hn
      refine rn ?_
      refine sCall c133 (power_ok vb lb 10 n W4 hrb (by omega) (.inr rfl) (by omega)) ?_
      rintro v3 W3 ⟨⟨l3, h3, e3, k3⟩, hx3⟩
      refine rn ?_
      refine G.met (va, la, v3, l3) (by repeat (first | exact Sub.nil _ | refine Sub.cons rfl ?_)) ⟨hx4.trans hx3, hra.to hx3, h3, ?_, ?_, by simp only; omega, by simp only; omega⟩
      · simp only
        rw [hea, show (-(n : Int)).toNat = 0 by omega, Nat.pow_zero, Nat.mul_one]
      · simp only; rw [e3, heb]; rfl
    · rw [decide_eq_false h0]
      obtain ⟨n, hn⟩ : ∃ n : Nat, (n : Int) = -x := ⟨(-x).toNat, by omega⟩
      have hne : x = -(n : Int) := by omega
      subst hne
      refine rn ?_
      refine sNeg ?_ (hr := wrap_i64 (by omega) (by omega))
      rw [show 0 - -(n : Int) = (n : Int) by omega]
      refine sCall c133 (power_ok va la 10 n W4 hra (by omega) (.inr rfl) (by omega)) ?_
      rintro v3 W3 ⟨⟨l3, h3, e3, k3⟩, hx3⟩
      refine rn ?_
      refine G.met (v3, l3, vb, lb) (by repeat (first | exact Sub.nil _ | refine Sub.cons rfl ?_)) ⟨hx4.trans hx3, h3, hrb.to hx3, ?_, ?_, by simp only; omega, by simp only; omega⟩
      · simp only; rw [e3, hea, show (- -(n : Int)).toNat = n by omega]
      · simp only
        rw [heb, show (-(n : Int)).toNat = 0 by omega, Nat.pow_zero, Nat.mul_one]
  clear hra hrb hea heb hla hlb hb4 hx4
  rintro ⟨va, la, vb, lb⟩ W5 ⟨hx5, hra, hrb, hea, heb, hla, hlb⟩
  simp only at hra hrb hea heb hla hlb
  show G _ _ [(7, none, va), (8, none, vb)] _
  refine rn ?_
  refine sCall c134 (cmpR_ok va vb la lb W5 hra hrb hla hlb) ?_
  rintro _ W6 ⟨rfl, hx6⟩
  refine rn ?_
  refine G.ret1 rfl rfl rfl rfl ?_
  exact ⟨by rw [hea, heb], hx5.trans hx6⟩
end Go.Proofs.YtcngoccnfmhhnaaGreatDoor
end
section
open Go Go.Vg Go.RowKit Go.Proofs Go.Proofs.YtcngoccnfmhhnaaGreatDoor
namespace Go.Proofs.YtcngoccnfmhhnaaGreatDoor
open Go.Nm

theorem kB_bd {b : Nat} (h : b ≤ infB) : kB b ≤ 2046 := by
  have : infB = 2047 * 2 ^ 52 := rfl
  unfold kB; omega
end Go.Proofs.YtcngoccnfmhhnaaGreatDoor
end
section
open Go Go.Vg Go.RowKit Go.Proofs Go.Proofs.YtcngoccnfmhhnaaGreatDoor
namespace Go.Proofs.YtcngoccnfmhhnaaGreatDoor
open Go.Nm

theorem below_p {b D : Nat} {x : Int} (hb : 0 < b) (hc : ¬ (mB b = 2 ^ 52 ∧ 0 < kB b)) : belowP (2 * mB b - 1) ((kB b : Int) - 1074 - 1) D x = cmpV (hB (b - 1) * 10 ^ (-x).toNat) (D * 10 ^ x.toNat * 2 ^ cP) := by
  have h := hB_pred hb
  rw [if_neg hc] at h
  rw [below_scale (j := kB b) (by unfold cP; omega), h]
theorem below_q {b D : Nat} {x : Int} (hb : 0 < b) (hc : mB b = 2 ^ 52 ∧ 0 < kB b) : belowP (4 * mB b - 1) ((kB b : Int) - 1074 - 2) D x = cmpV (hB (b - 1) * 10 ^ (-x).toNat) (D * 10 ^ x.toNat * 2 ^ cP) := by
  have h := hB_pred hb
  rw [if_pos hc] at h
  have hk : kB b = (kB b - 1) + 1 := by omega
  rw [hk, Nat.pow_succ, ← Nat.mul_assoc] at h
  rw [below_scale (j := kB b - 1) (by unfold cP; omega), Nat.eq_of_mul_eq_mul_right (by decide) h]
theorem cmpV_of (a b : Nat) : (a < b ∧ cmpV a b = -1) ∨ (a = b ∧ cmpV a b = 0) ∨ (b < a ∧ cmpV a b = 1) := by
  unfold cmpV
  by_cases h1 : a < b
  · exact .inl ⟨h1, by rw [if_pos h1]⟩
  · by_cases h2 : b < a
    · exact .inr (.inr ⟨h2, by rw [if_neg h1, if_pos h2]⟩)
    · exact .inr (.inl ⟨by omega, by rw [if_neg h1, if_neg h2]⟩)
theorem cmpV_gt {a b : Nat} : 0 < cmpV a b ↔ b < a := by
  rcases cmpV_of a b with ⟨h1, h2⟩ | ⟨h1, h2⟩ | ⟨h1, h2⟩ <;> (rw [h2]; constructor <;> intro h <;> omega)
theorem cmpV_eq {a b : Nat} : cmpV a b = 0 ↔ a = b := by
  rcases cmpV_of a b with ⟨h1, h2⟩ | ⟨h1, h2⟩ | ⟨h1, h2⟩ <;> (rw [h2]; constructor <;> intro h <;> omega)
theorem readsB_eq (X B b : Nat) : ((decide (0 < cmpV (hB b * B) X) || (decide (cmpV (hB b * B) X = 0) && decide (b % 2 = 0))) && (decide (cmpV (hB (b - 1) * B) X < 0) || (decide (cmpV (hB (b - 1) * B) X = 0) && decide (b % 2 = 0)))) = decide (Reads X B b) := by
  rw [Bool.eq_iff_iff]
  simp only [Bool.and_eq_true, Bool.or_eq_true, decide_eq_true_eq]
  unfold Reads
  rw [cmpV_gt, cmpV_eq, cmpV_eq, cmpV_lt]
  generalize hB b * B = p
  generalize hB (b - 1) * B = q
  omega
set_option maxHeartbeats 4000000 in
theorem reads_ok (b : Nat) (v : Value) (l : List Nat) (x : Int) (w : World) (hb : 0 < b) (hbi : b < infB) (hv : Rt w v l) (hl : l.length ≤ 10000) (hx1 : -5000 ≤ x) (hx2 : x ≤ 5000) :
    Ret Tryz.prog 109 ⟨[.int .u64 b, .agg ⟨[v, .int .i64 x]⟩]⟩ w fun r w' => r = .bool (decide (Reads (vL 10000 l * 10 ^ x.toNat * 2 ^ cP) (10 ^ (-x).toNat) b)) ∧ Ext w w' := by
  have hinf : infB = 9218868437227405312 := by decide
  have hkb := kB_bd (b := b) (by omega)
  have hmb := (bits_of b).2.1
  have hm1 : 1 ≤ mB b := by have := bits_of b; omega
  refine ret_of_G Tryz.func109 rfl Tryz.ntmps109 rfl ?_
  simp only [argEnv]
  refine rn ?_
  refine sBox (us := [v, .int .i64 x]) (fun W1 hb1 hs1 hx01 => ?_) (hv := rfl)
  refine rn ?_
  refine sCall c130 (parts_ok b W1 (by omega)) ?_
  rintro _ W2 ⟨rfl, hx12⟩
  have hb2 := hb1.to hx12
  have hx02 := hx01.trans hx12
  have hv2 := hv.to hx02
  refine rn ?_
  refine sRem (r := ((b % 2 : Nat) : Int)) rfl ?_
  refine rn ?_
  refine sAd tb (r := ((2 * mB b : Nat) : Int)) ?_ (hp := (wrap_i64 (n := 2 * ((mB b : Nat) : Int)) (by omega) (by omega)).trans (by omega))
  refine sAd tb (r := ((2 * mB b + 1 : Nat) : Int)) ?_
  refine rn ?_
  refine sAd tb (r := (kB b : Int) - 1074 - 1) ?_ (hp := wrap_i64 (by omega) (by omega))
  refine rn ?_
  obtain ⟨X, hX⟩ : ∃ X, X = vL 10000 l * 10 ^ x.toNat * 2 ^ cP := ⟨_, rfl⟩
  obtain ⟨B, hBe⟩ : ∃ B, B = 10 ^ (-x).toNat := ⟨_, rfl⟩
  rw [← hX, ← hBe]
  have hbh : belowP (2 * mB b + 1) ((kB b : Int) - 1074 - 1) (vL 10000 l) x = cmpV (hB b * B) X := by rw [hX, hBe]; exact below_h b _ x
  have hbp : ¬ (mB b = 2 ^ 52 ∧ 0 < kB b) → belowP (2 * mB b - 1) ((kB b : Int) - 1074 - 1) (vL 10000 l) x = cmpV (hB (b - 1) * B) X := fun h => by rw [hX, hBe]; exact below_p hb h
  have hbq : (mB b = 2 ^ 52 ∧ 0 < kB b) → belowP (4 * mB b - 1) ((kB b : Int) - 1074 - 2) (vL 10000 l) x = cmpV (hB (b - 1) * B) X := fun h => by rw [hX, hBe]; exact below_q hb h
  clear hX hBe
  refine sCall c131 (below_ok (2 * mB b + 1) ((kB b : Int) - 1074 - 1) v l x W2 hv2 hl (by omega) (by omega) (by omega) hx1 hx2) ?_
  rintro _ W3 ⟨rfl, hx23⟩
  rw [hbh]
  have hb3 := hb2.to hx23
  have hx03 := hx02.trans hx23
  have hv3 := hv2.to hx23
  refine rn ?_
  refine G.join (fun _ : Unit => [(7, none, .bool (decide (((b % 2 : Nat) : Int) = 0))), (8, none, .int .i64 (cmpV (hB b * B) X)), (9, none, .int .i64 (cmpV (hB (b - 1) * B) X))]) (fun _ W => Ext w W) ?_ ?_
  · rintro _ W hxW
    have hq := readsB_eq X B b
    refine rn ?_
    refine G.ret1 rfl rfl rfl rfl ?_
    refine ⟨?_, hxW⟩
    have h2 : decide (((b % 2 : Nat) : Int) = 0) = decide (b % 2 = 0) := decide_eq_decide.2 (by omega)
    rw [h2, ← hq]
  · refine G.cond rfl (fun hc => ?_) (fun hc => ?_)
    · have hc' : mB b = 2 ^ 52 ∧ 0 < kB b := by
        simp only [Bool.and_eq_true, decide_eq_true_eq] at hc
        omega
      refine rn ?_
      refine sAd tb (r := ((4 * mB b : Nat) : Int)) ?_ (hp := (wrap_i64 (n := 4 * ((mB b : Nat) : Int)) (by omega) (by omega)).trans (by omega))
      refine sAd tb (r := ((4 * mB b - 1 : Nat) : Int)) ?_ (hp := (wrap_i64 (n := ((4 * mB b : Nat) : Int) - 1) (by omega) (by omega)).trans (by omega))
      refine rn ?_
      refine sAd tb (r := (kB b : Int) - 1074 - 2) ?_ (hp := wrap_i64 (by omega) (by omega))
      refine rn ?_
      refine sCall c131 (below_ok (4 * mB b - 1) ((kB b : Int) - 1074 - 2) v l x W3 hv3 hl (by omega) (by omega) (by omega) hx1 hx2) ?_
      rintro _ W4 ⟨rfl, hx34⟩
      rw [hbq hc']
      refine rn ?_
      exact G.met () (by repeat (first | exact Sub.nil _ | refine Sub.cons rfl ?_)) (hx03.trans hx34)
    · have hc' : ¬ (mB b = 2 ^ 52 ∧ 0 < kB b) := by
        rintro ⟨h1, h2⟩
        rw [h1, decide_eq_true (show (-1074 : Int) < (kB b : Int) - 1074 by omega)] at hc
        simp at hc
      refine rn ?_
      refine sAd tb (r := ((2 * mB b : Nat) : Int)) ?_ (hp := (wrap_i64 (n := 2 * ((mB b : Nat) : Int)) (by omega) (by omega)).trans (by omega))
      refine sAd tb (r := ((2 * mB b - 1 : Nat) : Int)) ?_ (hp := (wrap_i64 (n := ((2 * mB b : Nat) : Int) - 1) (by omega) (by omega)).trans (by omega))
      refine rn ?_
      refine sAd tb (r := (kB b : Int) - 1074 - 1) ?_ (hp := wrap_i64 (by omega) (by omega))
      refine rn ?_
      refine sCall c131 (below_ok (2 * mB b - 1) ((kB b : Int) - 1074 - 1) v l x W3 hv3 hl (by omega) (by omega) (by omega) hx1 hx2) ?_
      rintro _ W4 ⟨rfl, hx34⟩
      rw [hbp hc']
      refine rn ?_
      exact G.met () (by repeat (first | exact Sub.nil _ | refine Sub.cons rfl ?_)) (hx03.trans hx34)
end Go.Proofs.YtcngoccnfmhhnaaGreatDoor
end
section
namespace Go.Vg
open Go.RowKit
theorem Sli.blk {w w' : World} {v : Value} {k : Nat} {xs : List (List Value)} (h : Sli w v k xs) (hc : ∀ g, g < w.heap.size → v.ownBlock = some g → w'.heap[g]? = w.heap[g]?) : Sli w' v k xs := by
  rcases h with h | ⟨a, cap, rfl, h2, h3, h4, h5, h6⟩
  · exact .inl h
  · refine .inr ⟨a, cap, rfl, h2, h3, h4, fun i x hx j u hu => ?_, h6⟩
    have h7 := h5 i x hx j u hu
    have hblk : (a.add (i * k + j)).block = a.block := by unfold Addr.add; split <;> rfl
    unfold World.cell? at h7 ⊢
    rw [hblk] at h7 ⊢
    have hlt : a.block < w.heap.size := Decidable.byContradiction fun hn => by
      rw [Array.getElem?_eq_none (by omega)] at h7
      simp at h7
    rw [hc a.block hlt rfl]
    exact h7
end Go.Vg
end
section
open Go Go.Vg Go.RowKit Go.Proofs Go.Proofs.YtcngoccnfmhhnaaGreatDoor
namespace Go.Proofs.YtcngoccnfmhhnaaGreatDoor
open Go.Nm

theorem add_block (a : Addr) (n : Nat) : (a.add n).block = a.block := by
  unfold Addr.add; split <;> rfl
theorem subS_own {v : Value} {k i j g : Nat} (h : (subS v k i j).ownBlock = some g) : v.ownBlock = some g := by
  cases v with
  | slice a n c =>
    cases a with
    | none =>
      by_cases hc : c = i
      · simp [subS, hc, Value.ownBlock] at h
      · simp [subS, hc, Value.ownBlock] at h
    | some a =>
      by_cases hc : c = i
      · simp only [subS, hc, if_true, Value.ownBlock] at h ⊢
        exact h
      · simp only [subS, hc, if_false, Option.map_some, Value.ownBlock, add_block] at h ⊢
        exact h
  | _ => exact h
theorem take_at {l : List Nat} {i : Nat} (h : i < l.length) : l.take (i + 1) = l.take i ++ [l[i]] := List.take_succ_eq_append_getElem h
theorem vL_step {l : List Nat} {i : Nat} (h : i < l.length) : vL 10000 (l.take (i + 1)) = vL 10000 (l.take i) + 10000 ^ i * l[i] := by
  rw [take_at h, vL_snoc, List.length_take, Nat.min_eq_left (by omega)]
theorem vL_over {m : List Nat} {i : Nat} (h : ¬ i < m.length) : vL 10000 (m.take (i + 1)) = vL 10000 (m.take i) := by
  rw [List.take_of_length_le (by omega), List.take_of_length_le (by omega)]
set_option maxHeartbeats 4000000 in
theorem minusR_ok (v u : Value) (l m : List Nat) (w : World) (hv : Rt w v l) (hu : Rt w u m) (hl : l.length ≤ 100000) (hle : vL 10000 m ≤ vL 10000 l) :
    Ret Tryz.prog 135 ⟨[v, u]⟩ w fun r w' => (∃ o, Rt w' r o ∧ vL 10000 o = vL 10000 l - vL 10000 m ∧ o.length ≤ l.length ∧ ∀ g, r.ownBlock = some g → w.heap.size ≤ g) ∧ Ext w w' := by
  have hvs := hv.sl
  have hus := hu.sl
  have hll : (l.map i64C).length = l.length := List.length_map ..
  have hml : (m.map i64C).length = m.length := List.length_map ..
  have hmlen : m.length ≤ l.length := Decidable.byContradiction fun h => by have := hv.nr.len_lt (by decide) hu.nr (by omega); omega
  refine ret_of_G Tryz.func135 rfl Tryz.ntmps135 rfl ?_
  simp only [argEnv]
  refine rn ?_
  refine (G.loop (fun x : Nat × Nat × Value => [(0, none, v), (1, none, u), (5, none, x.2.2), (6, none, .int .i64 (x.2.1 : Nat)), (7, none, .int .i64 x.1)]) (fun x W => Ext w W ∧ x.1 ≤ l.length ∧ x.2.1 ≤ 1 ∧ ∃ o, Owns W w.heap.size x.2.2 3 1 (o.map i64C) ∧ o.length = x.1 ∧ (∀ z ∈ o, z < 10000) ∧ vL 10000 o + vL 10000 (m.take x.1) = vL 10000 (l.take x.1) + 10000 ^ x.1 * x.2.1) (fun x => l.length - x.1) (0, 0, .slice none 0 0) (by repeat (first | exact Sub.nil _ | refine Sub.cons rfl ?_)) ⟨Ext.refl _, Nat.zero_le _, Nat.zero_le _, [], Owns.nil _ _ _ _, rfl, by simp, by simp [vL]⟩ ?_)
  rintro ⟨i, br, ov⟩ W ⟨hx, hi, hbr, o, ho, hol, hod, he⟩
  simp only at hi hbr ho hol he ⊢
  have hvW := hvs.to hx
  have huW := hus.to hx
  have hxs := hx.size
  refine rn ?_
  rw [hll]
  refine rn ?_
  first | refine G.condD rfl (fun hc => ?_) (fun hc => ?_) | refine G.condN rfl (fun hc => ?_) (fun hc => ?_) | refine G.cond rfl (fun hc => ?_) (fun hc => ?_)
  · have hlt : i < l.length := by omega
    have hget : (l.map i64C)[i]? = some (i64C l[i]) := by rw [List.getElem?_map, List.getElem?_eq_getElem hlt]; rfl
    have hxl := hv.nr.lt l[i] (List.getElem_mem hlt)
    have hsl := vL_step hlt
    obtain ⟨a, ha⟩ : ∃ a, a = l[i] := ⟨_, rfl⟩
    rw [← ha] at hget hxl hsl
    clear ha
    refine rn ?_
    refine sIa tb i ?_ (hs := fun _ => ⟨_, hvW⟩) (hj := fun _ => ⟨rfl, by rw [hll]; exact hlt⟩)
    refine rn ?_
    refine sAd tb (r := (a : Int) - (br : Int)) ?_ (hp := wrap_i64 (by omega) (by omega))
    refine rn ?_
    rw [hml]
    refine rn ?_
    refine G.join (fun d : Nat => [(0, none, v), (1, none, u), (5, none, ov), (7, none, .int .i64 i), (8, none, .int .i64 ((a : Int) - br - d))]) (fun d W' => W = W' ∧ d < 10000 ∧ vL 10000 (m.take (i + 1)) = vL 10000 (m.take i) + 10000 ^ i * d) ?_ ?_
    · rintro d _ ⟨rfl, hd, hsm⟩
      refine rn ?_
      refine G.join (fun y : Nat × Nat => [(0, none, v), (1, none, u), (5, none, ov), (7, none, .int .i64 i), (8, none, .int .i64 (y.1 : Nat)), (6, none, .int .i64 (y.2 : Nat))]) (fun y W' => W = W' ∧ y.1 < 10000 ∧ y.2 ≤ 1 ∧ y.1 + br + d = a + 10000 * y.2) ?_ ?_
      · rintro ⟨y, b2⟩ _ ⟨rfl, hy, hb2, hyd⟩
        simp only at hy hb2 hyd ⊢
        refine rn ?_
        refine sBs' tb ([y].map i64C) (fun us W2 ho2 hs2 hx2 => ?_) (hkl := by simp [i64C])
        have hx2s := hx2.size
        refine sApp tb (ho.to hx2) ho2.sli (fun u3 W3 ho3 hg3 => ?_) (h1 := i64_one [_]) (hb := by simp only [List.length_map, List.length_cons, List.length_nil]; omega) (hl := by simp only [List.length_map, List.length_cons, List.length_nil]; omega)
        have hx3 : Ext w W3 := hg3.below w (hx.trans hx2)
        refine rn ?_
        refine sAd tb (r := ((i + 1 : Nat) : Int)) ?_
        refine rn ?_
        rw [← List.map_append] at ho3
        refine G.lp (x := (i, br, ov)) (i + 1, b2, u3) (by repeat (first | exact Sub.nil _ | refine Sub.cons rfl ?_)) ⟨hx3, hlt, hb2, o ++ [y], ho3, by simp only [List.length_append, List.length_cons, List.length_nil]; omega, ?_, ?_⟩ (by show l.length - (i + 1) < l.length - i; omega)
        · intro z hz
          rcases List.mem_append.1 hz with h | h
          · exact hod z h
          · rw [List.mem_singleton.1 h]; exact hy
        · show vL 10000 (o ++ [y]) + vL 10000 (m.take (i + 1)) = vL 10000 (l.take (i + 1)) + 10000 ^ (i + 1) * b2
          rw [vL_snoc, hol, hsm, hsl, Nat.pow_succ]
          have := congrArg (10000 ^ i * ·) hyd
          simp only [Nat.mul_add] at this
          rw [Nat.mul_assoc (10000 ^ i) 10000 b2]
          omega
      · first | refine G.condD rfl (fun hc => ?_) (fun hc => ?_) | refine G.condN rfl (fun hc => ?_) (fun hc => ?_) | refine G.cond rfl (fun hc => ?_) (fun hc => ?_)
        · refine rn ?_
          refine sAd tb (r := ((a + 10000 - br - d : Nat) : Int)) ?_ (hp := (wrap_i64 (n := (a : Int) - br - d + 10000) (by omega) (by omega)).trans (by omega))
          refine rn ?_
          exact G.met (a + 10000 - br - d, 1) (by repeat (first | exact Sub.nil _ | refine Sub.cons rfl ?_)) ⟨rfl, by show a + 10000 - br - d < 10000; omega, by show 1 ≤ 1; omega, by show a + 10000 - br - d + br + d = a + 10000 * 1; omega⟩
        · rw [show (a : Int) - br - d = ((a - br - d : Nat) : Int) by omega]
          refine rn ?_
          exact G.met (a - br - d, 0) (by repeat (first | exact Sub.nil _ | refine Sub.cons rfl ?_)) ⟨rfl, by show a - br - d < 10000; omega, by show 0 ≤ 1; omega, by show a - br - d + br + d = a + 10000 * 0; omega⟩
    · first | refine G.condD rfl (fun hc => ?_) (fun hc => ?_) | refine G.condN rfl (fun hc => ?_) (fun hc => ?_) | refine G.cond rfl (fun hc => ?_) (fun hc => ?_)
      · have hlt2 : i < m.length := by omega
        have hget2 : (m.map i64C)[i]? = some (i64C m[i]) := by rw [List.getElem?_map, List.getElem?_eq_getElem hlt2]; rfl
        have hdl := hu.nr.lt m[i] (List.getElem_mem hlt2)
        have hsm := vL_step hlt2
        obtain ⟨d, hd⟩ : ∃ d, d = m[i] := ⟨_, rfl⟩
        rw [← hd] at hget2 hdl hsm
        clear hd hget
        refine rn ?_
        refine sIa tb i ?_ (hs := fun _ => ⟨_, huW⟩) (hj := fun _ => ⟨rfl, by rw [hml]; exact hlt2⟩)
        refine rn ?_
        refine sAd tb (r := (a : Int) - br - d) ?_ (hp := wrap_i64 (by omega) (by omega))
        refine rn ?_
        exact G.met d (by repeat (first | exact Sub.nil _ | refine Sub.cons rfl ?_)) ⟨rfl, hdl, hsm⟩
      · have hno : ¬ i < m.length := by omega
        refine rn ?_
        exact G.met 0 (by rw [show (a : Int) - br - ((0 : Nat) : Int) = (a : Int) - br by omega]; exact (by repeat (first | exact Sub.nil _ | refine Sub.cons rfl ?_))) ⟨rfl, by decide, by rw [vL_over hno]; omega⟩
  · have hie : i = l.length := by omega
    subst hie
    rw [List.take_length, List.take_of_length_le hmlen] at he
    have hob := vL_lt hod
    rw [hol] at hob
    have hbr0 : br = 0 := by
      rcases Nat.eq_zero_or_pos br with h | h
      · exact h
      · have : br = 1 := by omega
        subst this
        omega
    subst hbr0
    rw [Nat.mul_zero] at he
    have hval : vL 10000 o = vL 10000 l - vL 10000 m := by omega
    rw [← hval]
    clear hc he hval hob hvW huW
    refine rn ?_
    refine (G.loop (fun x : Nat × Value => [(5, none, x.2)]) (fun x W => Ext w W ∧ x.1 ≤ o.length ∧ Sli W x.2 1 ((o.take x.1).map i64C) ∧ vL 10000 (o.take x.1) = vL 10000 o ∧ ∀ g, x.2.ownBlock = some g → w.heap.size ≤ g) (fun x => x.1) (o.length, ov) (by repeat (first | exact Sub.nil _ | refine Sub.cons rfl ?_)) ⟨hx, Nat.le_refl _, by rw [List.take_length]; exact ho.sli, by rw [List.take_length], fun g hg => (ho.lt g hg).1⟩ ?_)
    clear hx ho hxs
    rintro ⟨k, kv⟩ W ⟨hx, hk, hs, he, hown⟩
    simp only at hk hs he hown ⊢
    have hkl : ((o.take k).map i64C).length = k := by rw [List.length_map, List.length_take]; omega
    by_cases hk0 : k = 0
    · subst hk0
      refine rn ?_
      rw [hkl]
      refine rn ?_
      refine GL.cons (Step.arith (k := .i64) (a := ((0 : Nat) : Int)) (r := -1) rfl (Op1.of rfl (by first | exact fun _ => rfl | exact fun h => h | exact fun h => bL h | exact fun h => bL (bL h) | exact fun h => bL (bL (bL h)))) (Op1.of rfl (by first | exact fun _ => rfl | exact fun h => h | exact fun h => bL h | exact fun h => bL (bL h) | exact fun h => bL (bL (bL h)))) ((wrap_i64 (n := ((0 : Nat) : Int) - 1) (by omega) (by omega)).trans (by omega)) rfl ?_)
      refine rn ?_
      refine sIa tb 0 ?_ (hs := fun _ => ⟨_, hs⟩) (hj := fun hc => by simp [cv] at hc)
      refine sLd tb (u := .int .i64 0) ?_ (hc := fun hc => by simp [cv] at hc)
      refine rn ?_
      refine G.ret1 rfl rfl rfl rfl ?_
      exact ⟨⟨[], ⟨by simpa using hs, Nrm.nil _⟩, by rw [← he]; rfl, Nat.zero_le _, hown⟩, hx⟩
    · have hlt : k - 1 < o.length := by omega
      have hks : k = k - 1 + 1 := by omega
      have htk : o.take k = o.take (k - 1) ++ [o[k - 1]] := by
        have := take_at hlt
        rwa [← hks] at this
      have hst := vL_step hlt
      rw [← hks] at hst
      have hyd := hod o[k - 1] (List.getElem_mem hlt)
      obtain ⟨y, hy⟩ : ∃ y, y = o[k - 1] := ⟨_, rfl⟩
      rw [← hy] at htk hst hyd
      have hget : ((o.take k).map i64C)[k - 1]? = some (i64C y) := by
        rw [List.getElem?_map, htk, List.getElem?_append_right (by rw [List.length_take]; omega), List.length_take, Nat.min_eq_left (by omega), Nat.sub_self]; rfl
      clear hy
      refine rn ?_
      rw [hkl]
      refine rn ?_
      refine GL.cons (Step.arith (k := .i64) (a := ((k : Nat) : Int)) (r := ((k - 1 : Nat) : Int)) rfl (Op1.of rfl (by first | exact fun _ => rfl | exact fun h => h | exact fun h => bL h | exact fun h => bL (bL h) | exact fun h => bL (bL (bL h)))) (Op1.of rfl (by first | exact fun _ => rfl | exact fun h => h | exact fun h => bL h | exact fun h => bL (bL h) | exact fun h => bL (bL (bL h)))) ((wrap_i64 (n := ((k : Nat) : Int) - 1) (by omega) (by omega)).trans (by omega)) rfl ?_)
      refine rn ?_
      refine sIa tb (k - 1) ?_ (hs := fun _ => ⟨_, hs⟩) (hj := fun _ => ⟨rfl, by rw [hkl]; omega⟩)
      refine rn ?_
      refine G.cond rfl (fun hc => ?_) (fun hc => ?_)
      · have hy0 : y = 0 := by
          simp only [Bool.and_eq_true, decide_eq_true_eq] at hc
          omega
        subst hy0
        refine rn ?_
        rw [hkl]
        refine rn ?_
        refine GL.cons (Step.arith (k := .i64) (a := ((k : Nat) : Int)) (r := ((k - 1 : Nat) : Int)) rfl (Op1.of rfl (by first | exact fun _ => rfl | exact fun h => h | exact fun h => bL h | exact fun h => bL (bL h) | exact fun h => bL (bL (bL h)))) (Op1.of rfl (by first | exact fun _ => rfl | exact fun h => h | exact fun h => bL h | exact fun h => bL (bL h) | exact fun h => bL (bL (bL h)))) ((wrap_i64 (n := ((k : Nat) : Int) - 1) (by omega) (by omega)).trans (by omega)) rfl ?_)
        refine rn ?_
        refine GL.cons (Step.sliceVh tb (k - 1) rfl (Op1.of rfl (by first | exact fun _ => rfl | exact fun h => h | exact fun h => bL h | exact fun h => bL (bL h) | exact fun h => bL (bL (bL h)))) (Op1.of rfl (by first | exact fun _ => rfl | exact fun h => h | exact fun h => bL h | exact fun h => bL (bL h) | exact fun h => bL (bL (bL h)))) rfl rfl (fun _ => ⟨_, hs⟩) (fun _ => ⟨rfl, by rw [hkl]; omega⟩) rfl ?_)
        have hs2 := Sli.sub hs (l := 0) (h := k - 1) (Nat.zero_le _) (by rw [hkl]; omega)
        refine rn ?_
        refine G.lp (x := (k, kv)) (k - 1, _) (by repeat (first | exact Sub.nil _ | refine Sub.cons rfl ?_)) ⟨hx, by show k - 1 ≤ o.length; omega, ?_, by show vL 10000 (o.take (k - 1)) = _; rw [← he, hst]; omega, fun g hg => hown g ?_⟩ (by show k - 1 < k; omega)
        · rw [List.drop_zero, Nat.sub_zero, ← List.map_take, List.take_take, Nat.min_eq_left (by omega)] at hs2
          exact hs2
        · exact subS_own hg
      · have hy0 : y ≠ 0 := by
          rintro rfl
          rw [decide_eq_true (show (0 : Int) < (k : Nat) by omega)] at hc
          simp at hc
        refine rn ?_
        refine G.ret1 rfl rfl rfl rfl ?_
        refine ⟨⟨o.take k, ⟨hs, ⟨fun z hz => hod z (List.mem_of_mem_take hz), fun h => ?_⟩⟩, he, by rw [List.length_take]; omega, hown⟩, hx⟩
        have : (o.take k).getLast h = y := by simp [htk]
        rw [this]; exact hy0
end Go.Proofs.YtcngoccnfmhhnaaGreatDoor
end
section
open Go Go.Vg Go.RowKit Go.Proofs Go.Proofs.YtcngoccnfmhhnaaGreatDoor
namespace Go.Proofs.YtcngoccnfmhhnaaGreatDoor
open Go.Nm

theorem vL_set : ∀ (l : List Nat) (i z : Nat) (h : i < l.length), vL 10000 (l.set i z) + 10000 ^ i * l[i] = vL 10000 l + 10000 ^ i * z
  | [], i, z, h => by simp at h
  | x :: l, 0, z, h => by simp [vL]; omega
  | x :: l, i + 1, z, h => by
    have ih := vL_set l i z (by simpa using h)
    simp only [List.set_cons_succ, vL, List.getElem_cons_succ, Nat.pow_succ]
    have e : ∀ t, 10000 ^ i * 10000 * t = 10000 * (10000 ^ i * t) := fun t => by rw [Nat.mul_comm (10000 ^ i) 10000, Nat.mul_assoc]
    rw [e, e]
    omega
set_option maxRecDepth 200000 in
set_option maxHeartbeats 4000000 in
theorem plusR_ok (v : Value) (l : List Nat) (w : World) (hv : Rt w v l) (hl : l.length ≤ 100000) :
    Ret Tryz.prog 108 ⟨[v]⟩ w fun r w' => (∃ o, Rt w' r o ∧ vL 10000 o = vL 10000 l + 1 ∧ o.length ≤ l.length + 1) ∧ Ext w w' := by
  have hvs := hv.sl
  have hll : (l.map i64C).length = l.length := List.length_map ..
  refine ret_of_G Tryz.func108 rfl Tryz.ntmps108 rfl ?_
  simp only [argEnv]
  refine rn ?_
  refine sBs' tb ([].map i64C) (fun us W2 ho2 hs2 hx2 => ?_) (hkl := by simp)
  refine rn ?_
  refine sApp tb ho2 (hvs.to hx2) (fun ov W3 ho3 hg3 => ?_) (h1 := i64_one l) (hb := by rw [hll]; simp only [List.map_nil, List.length_nil]; omega) (hl := by rw [hll]; simp only [List.map_nil, List.length_nil]; omega)
  have hx3 : Ext w W3 := hg3.below w hx2
  have ho3 : Owns W3 w.heap.size ov 3 1 (l.map i64C) := ho3
  refine rn ?_
  refine (G.loop (fun i : Nat => [(3, none, ov), (4, none, .int .i64 i)]) (fun i W => Ext w W ∧ i ≤ l.length ∧ ∃ ys, Owns W w.heap.size ov 3 1 (ys.map i64C) ∧ ys.length = l.length ∧ (∀ z ∈ ys, z < 10000) ∧ ys.drop i = l.drop i ∧ vL 10000 ys + 10000 ^ i = vL 10000 l + 1) (fun i => l.length - i) 0 (by repeat (first | exact Sub.nil _ | refine Sub.cons rfl ?_)) ⟨hx3, Nat.zero_le _, l, ho3, rfl, hv.nr.lt, rfl, rfl⟩ ?_)
  clear hx3 ho3 ho2 hg3
  rintro i W ⟨hx, hi, ys, ho, hyl, hyd, hdr, he⟩
  have hys := ho.sli
  have hyl2 : (ys.map i64C).length = l.length := by rw [List.length_map]; exact hyl
  refine rn ?_
  rw [hyl2]
  refine rn ?_
  first | refine G.condD rfl (fun hc => ?_) (fun hc => ?_) | refine G.condN rfl (fun hc => ?_) (fun hc => ?_) | refine G.cond rfl (fun hc => ?_) (fun hc => ?_)
  · have hlt : i < ys.length := by omega
    have hget : (ys.map i64C)[i]? = some (i64C ys[i]) := by rw [List.getElem?_map, List.getElem?_eq_getElem hlt]; rfl
    have hy := hyd ys[i] (List.getElem_mem hlt)
    have hset := fun z => vL_set ys i z hlt
    have hdr2 : ys.drop (i + 1) = l.drop (i + 1) := by
      have := congrArg (List.drop 1) hdr
      simpa [List.drop_drop, Nat.add_comm] using this
    obtain ⟨y, hye⟩ : ∃ y, y = ys[i] := ⟨_, rfl⟩
    rw [← hye] at hget hy hset
    refine rn ?_
    refine sIa tb i ?_ (hs := fun _ => ⟨_, hys⟩) (hj := fun _ => ⟨rfl, by rw [hyl2]; omega⟩)
    refine rn ?_
    first | refine G.condD rfl (fun hc => ?_) (fun hc => ?_) | refine G.condN rfl (fun hc => ?_) (fun hc => ?_) | refine G.cond rfl (fun hc => ?_) (fun hc => ?_)
    · refine rn ?_
      refine sIa tb i ?_ (hs := fun _ => ⟨_, hys⟩) (hj := fun _ => ⟨rfl, by rw [hyl2]; omega⟩)
      refine rn ?_
      refine sAd tb (r := ((y + 1 : Nat) : Int)) ?_
      refine rn ?_
      refine sIa tb i ?_ (hs := fun _ => ⟨_, hys⟩) (hj := fun _ => ⟨rfl, by rw [hyl2]; omega⟩)
      refine sStR tb (j := i) ho (by rw [List.length_map]; exact hlt) ?_ (vs := i64C (y + 1)) (h1 := by intro z hz; obtain rfl := List.mem_singleton.1 hz; rfl)
      intro W4 ho4 hg4
      have ho4 : Owns W4 w.heap.size ov 3 1 ((ys.set i (y + 1)).map i64C) := by rw [List.map_set]; exact ho4
      have hv4 := hset (y + 1)
      rw [Nat.mul_add, Nat.mul_one] at hv4
      refine rn ?_
      refine G.ret1 rfl rfl rfl rfl ?_
      refine ⟨⟨ys.set i (y + 1), ⟨ho4.sli, ⟨fun z hz => ?_, fun h => ?_⟩⟩, by omega, by rw [List.length_set]; omega⟩, hg4.below w hx⟩
      · rcases List.mem_or_eq_of_mem_set hz with h | h
        · exact hyd z h
        · omega
      · have hne : ys.set i (y + 1) ≠ [] := h
        rw [List.getLast_eq_getElem]
        simp only [List.length_set, List.getElem_set]
        split
        · omega
        · rename_i hi2
          have hlast : ys.length - 1 < ys.length := by omega
          have hil : i ≤ ys.length - 1 := by omega
          have h1 : (ys.drop i)[ys.length - 1 - i]? = some ys[ys.length - 1] := by
            rw [List.getElem?_drop, show i + (ys.length - 1 - i) = ys.length - 1 by omega, List.getElem?_eq_getElem hlast]
          have hyn : 0 < ys.length := by omega
          have hll1 : l.length - 1 < l.length := by rw [← hyl]; omega
          have e3 : i + (ys.length - 1 - i) = l.length - 1 := by rw [← hyl]; omega
          rw [hdr, List.getElem?_drop, e3, List.getElem?_eq_getElem hll1] at h1
          have h2 := Option.some.inj h1
          rw [← h2]
          have hln : l ≠ [] := fun e => by rw [e, List.length_nil] at hyl; omega
          have := hv.nr.top hln
          rwa [List.getLast_eq_getElem] at this
    · have hy9 : y = 9999 := by omega
      subst hy9
      refine rn ?_
      refine sIa tb i ?_ (hs := fun _ => ⟨_, hys⟩) (hj := fun _ => ⟨rfl, by rw [hyl2]; omega⟩)
      refine sStR tb (j := i) ho (by rw [List.length_map]; exact hlt) ?_ (vs := i64C 0) (h1 := by intro z hz; obtain rfl := List.mem_singleton.1 hz; rfl)
      intro W4 ho4 hg4
      have ho4 : Owns W4 w.heap.size ov 3 1 ((ys.set i 0).map i64C) := by rw [List.map_set]; exact ho4
      have hv4 := hset 0
      refine rn ?_
      refine sAd tb (r := ((i + 1 : Nat) : Int)) ?_
      refine rn ?_
      refine G.lp (x := i) (i + 1) (by repeat (first | exact Sub.nil _ | refine Sub.cons rfl ?_)) ⟨hg4.below w hx, by omega, ys.set i 0, ho4, by rw [List.length_set]; exact hyl, fun z hz => ?_, ?_, ?_⟩ (by omega)
      · rcases List.mem_or_eq_of_mem_set hz with h | h
        · exact hyd z h
        · omega
      · rw [List.drop_set_of_lt (by omega)]; exact hdr2
      · rw [Nat.pow_succ]; omega
  · have hie : i = l.length := by omega
    subst hie
    refine rn ?_
    refine sBs' tb ([1].map i64C) (fun us5 W5 ho5 hs5 hx5 => ?_) (hkl := by simp [i64C])
    have hxs := hx.size
    have hx5s := hx5.size
    refine sApp tb (ho.to hx5) ho5.sli (fun u6 W6 ho6 hg6 => ?_) (h1 := i64_one [_]) (hb := by rw [hyl2]; simp only [List.length_map, List.length_cons, List.length_nil]; omega) (hl := by rw [hyl2]; simp only [List.length_map, List.length_cons, List.length_nil]; omega)
    rw [← List.map_append] at ho6
    refine rn ?_
    refine G.ret1 rfl rfl rfl rfl ?_
    refine ⟨⟨ys ++ [1], ⟨ho6.sli, ⟨fun z hz => ?_, fun h => by simp⟩⟩, ?_, by rw [List.length_append, List.length_cons, List.length_nil]; omega⟩, hg6.below w (hx.trans hx5)⟩
    · rcases List.mem_append.1 hz with h | h
      · exact hyd z h
      · rw [List.mem_singleton.1 h]; decide
    · rw [vL_snoc, hyl]; omega
end Go.Proofs.YtcngoccnfmhhnaaGreatDoor
end
section
open Go Go.Vg Go.RowKit Go.Proofs Go.Proofs.YtcngoccnfmhhnaaGreatDoor
namespace Go.Proofs.YtcngoccnfmhhnaaGreatDoor
open Go.Nm

theorem vL_get (l : List Nat) (i : Nat) : vL 10000 (l.take (i + 1)) = vL 10000 (l.take i) + 10000 ^ i * l.getD i 0 := by
  by_cases h : i < l.length
  · rw [vL_step h, List.getD_eq_getElem?_getD, List.getElem?_eq_getElem h]; rfl
  · rw [vL_over h, List.getD_eq_getElem?_getD, List.getElem?_eq_none (by omega)]; rfl
theorem top_get {l : List Nat} {i : Nat} (h : Nrm 10000 l) (hl : l.length = i + 1) : l.getD i 0 ≠ 0 := by
  have hne : l ≠ [] := fun e => by rw [e, List.length_nil] at hl; omega
  have := h.top hne
  rw [List.getLast_eq_getElem] at this
  rw [List.getD_eq_getElem?_getD, List.getElem?_eq_getElem (by omega)]
  simp only [hl, Nat.add_sub_cancel] at this
  exact this
theorem get_lt {l : List Nat} (h : Nrm 10000 l) (i : Nat) : l.getD i 0 < 10000 := by
  rw [List.getD_eq_getElem?_getD]
  by_cases hl : i < l.length
  · rw [List.getElem?_eq_getElem hl]; exact h.lt _ (List.getElem_mem hl)
  · rw [List.getElem?_eq_none (by omega)]; decide
theorem get_over {l : List Nat} {i : Nat} (h : l.length ≤ i) : l.getD i 0 = 0 := by
  rw [List.getD_eq_getElem?_getD, List.getElem?_eq_none h]; rfl
set_option maxHeartbeats 4000000 in
theorem addR_ok (v u : Value) (l m : List Nat) (w : World) (hv : Rt w v l) (hu : Rt w u m) (hl : l.length ≤ 100000) (hm : m.length ≤ 100000) :
    Ret Tryz.prog 136 ⟨[v, u]⟩ w fun r w' => (∃ o, Rt w' r o ∧ vL 10000 o = vL 10000 l + vL 10000 m ∧ o.length ≤ l.length + m.length + 1) ∧ Ext w w' := by
  have hvs := hv.sl
  have hus := hu.sl
  have hll : (l.map i64C).length = l.length := List.length_map ..
  have hml : (m.map i64C).length = m.length := List.length_map ..
  refine ret_of_G Tryz.func136 rfl Tryz.ntmps136 rfl ?_
  simp only [argEnv]
  refine rn ?_
  refine (G.loop (fun x : Nat × Nat × Value => [(0, none, v), (1, none, u), (5, none, x.2.2), (6, none, .int .i64 (x.2.1 : Nat)), (7, none, .int .i64 x.1)]) (fun x W => Ext w W ∧ x.2.1 ≤ 1 ∧ (x.1 ≤ max l.length m.length ∨ x.1 = max l.length m.length + 1 ∧ x.2.1 = 0) ∧ ∃ o, Owns W w.heap.size x.2.2 3 1 (o.map i64C) ∧ o.length = x.1 ∧ (∀ z ∈ o, z < 10000) ∧ vL 10000 o + 10000 ^ x.1 * x.2.1 = vL 10000 (l.take x.1) + vL 10000 (m.take x.1) ∧ (max l.length m.length ≤ x.1 → x.2.1 = 0 → ∀ h : o ≠ [], o.getLast h ≠ 0)) (fun x => max l.length m.length + 1 - x.1) (0, 0, .slice none 0 0) (by repeat (first | exact Sub.nil _ | refine Sub.cons rfl ?_)) ⟨Ext.refl _, Nat.zero_le _, .inl (Nat.zero_le _), [], Owns.nil _ _ _ _, rfl, by simp, by simp [vL], by simp⟩ ?_)
  rintro ⟨i, c, ov⟩ W ⟨hx, hc1, hi, o, ho, hol, hod, he, htop⟩
  simp only at hc1 hi ho hol he htop ⊢
  have hvW := hvs.to hx
  have huW := hus.to hx
  have hxs := hx.size
  obtain ⟨N, hN⟩ : ∃ N, N = max l.length m.length := ⟨_, rfl⟩
  have hNl : l.length ≤ N := by omega
  have hNm : m.length ≤ N := by omega
  rw [← hN] at hi htop ⊢
  refine rn ?_
  rw [hll]
  refine rn ?_
  rw [hml]
  refine rn ?_
  refine G.cond rfl (fun hc => ?_) (fun hc => ?_)
  · have hc' : i < l.length ∨ i < m.length ∨ 0 < c := by
      simp only [Bool.or_eq_true, decide_eq_true_eq] at hc
      omega
    clear hc
    have hal := get_lt hv.nr i
    have hdl := get_lt hu.nr i
    have hsa := vL_get l i
    have hsd := vL_get m i
    have hta := top_get hv.nr (i := i)
    have htd := top_get hu.nr (i := i)
    have hoa := get_over (l := l) (i := i)
    have hod2 := get_over (l := m) (i := i)
    have hga : ∀ h : i < l.length, (l.map i64C)[i]? = some (i64C (l.getD i 0)) := fun h => by rw [List.getElem?_map, List.getElem?_eq_getElem h, List.getD_eq_getElem?_getD, List.getElem?_eq_getElem h]; rfl
    have hgd : ∀ h : i < m.length, (m.map i64C)[i]? = some (i64C (m.getD i 0)) := fun h => by rw [List.getElem?_map, List.getElem?_eq_getElem h, List.getD_eq_getElem?_getD, List.getElem?_eq_getElem h]; rfl
    generalize l.getD i 0 = a at hal hsa hta hoa hga
    generalize m.getD i 0 = d at hdl hsd htd hod2 hgd
    refine rn ?_
    rw [hll]
    refine rn ?_
    refine G.join (fun _ : Unit => [(0, none, v), (1, none, u), (5, none, ov), (7, none, .int .i64 i), (8, none, .int .i64 ((c + a : Nat) : Int))]) (fun _ W' => W = W') ?_ ?_
    · rintro _ _ rfl
      refine rn ?_
      rw [hml]
      refine rn ?_
      refine G.join (fun _ : Unit => [(0, none, v), (1, none, u), (5, none, ov), (7, none, .int .i64 i), (8, none, .int .i64 ((c + a + d : Nat) : Int))]) (fun _ W' => W = W') ?_ ?_
      · rintro _ _ rfl
        obtain ⟨y, hy⟩ : ∃ y, y = c + a + d := ⟨_, rfl⟩
        have hyb : y < 20000 := by omega
        rw [← hy]
        have hrem : ((y : Nat) : Int).tmod 10000 = ((y % 10000 : Nat) : Int) := (Int.tmod_eq_emod_of_nonneg (by omega)).trans (by omega)
        have hquo : IntKind.i64.wrap (((y : Nat) : Int).tdiv 10000) = ((y / 10000 : Nat) : Int) := by
          rw [Int.tdiv_eq_ediv_of_nonneg (by omega)]
          exact (wrap_i64 (n := ((y : Nat) : Int) / 10000) (by omega) (by omega)).trans (by omega)
        have hdm : y = 10000 * (y / 10000) + y % 10000 := by omega
        have hr := Nat.mod_lt y (show 0 < 10000 by decide)
        have hq1 : y / 10000 ≤ 1 := by omega
        generalize hqe : y / 10000 = q at *
        generalize hre : y % 10000 = r at *
        refine rn ?_
        refine sRem hrem ?_
        refine sBs' tb ([r].map i64C) (fun us W2 ho2 hs2 hx2 => ?_) (hkl := by simp [i64C])
        have hx2s := hx2.size
        refine sApp tb (ho.to hx2) ho2.sli (fun u3 W3 ho3 hg3 => ?_) (h1 := i64_one [_]) (hb := by simp only [List.length_map, List.length_cons, List.length_nil]; omega) (hl := by simp only [List.length_map, List.length_cons, List.length_nil]; omega)
        have hx3 : Ext w W3 := hg3.below w (hx.trans hx2)
        refine rn ?_
        refine sQuo hquo ?_
        refine rn ?_
        refine sAd tb (r := ((i + 1 : Nat) : Int)) ?_
        refine rn ?_
        rw [← List.map_append] at ho3
        refine G.lp (x := (i, c, ov)) (i + 1, q, u3) (by repeat (first | exact Sub.nil _ | refine Sub.cons rfl ?_)) ⟨hx3, hq1, ?_, o ++ [r], ho3, by simp only [List.length_append, List.length_cons, List.length_nil]; omega, ?_, ?_, ?_⟩ ?_
        · show i + 1 ≤ N ∨ i + 1 = N + 1 ∧ q = 0
          by_cases hiN : i < N
          · exact .inl hiN
          · right
            have ha0 := hoa (by omega)
            have hd0 := hod2 (by omega)
            omega
        · intro z hz
          rcases List.mem_append.1 hz with h | h
          · exact hod z h
          · rw [List.mem_singleton.1 h]; exact hr
        · show vL 10000 (o ++ [r]) + 10000 ^ (i + 1) * q = vL 10000 (l.take (i + 1)) + vL 10000 (m.take (i + 1))
          rw [vL_snoc, hol, hsa, hsd, Nat.pow_succ, Nat.mul_assoc (10000 ^ i) 10000 q]
          have e1 : 10000 ^ i * y = 10000 ^ i * (10000 * q) + 10000 ^ i * r := by rw [hdm, Nat.mul_add]
          rw [hy, Nat.mul_add, Nat.mul_add] at e1
          omega
        · intro h1 h2 h
          have h1 : N ≤ i + 1 := h1
          have h2 : q = 0 := h2
          have : (o ++ [r]).getLast h = r := by simp
          rw [this]
          have hpos : 0 < y := by
            by_cases hiN : i < N
            · rcases Nat.lt_or_ge l.length m.length with h3 | h3
              · have := htd (by omega); omega
              · have := hta (by omega); omega
            · omega
          omega
        · show N + 1 - (i + 1) < N + 1 - i
          omega
      · first | refine G.condD rfl (fun hc => ?_) (fun hc => ?_) | refine G.condN rfl (fun hc => ?_) (fun hc => ?_) | refine G.cond rfl (fun hc => ?_) (fun hc => ?_)
        · have hlt : i < m.length := by omega
          have hget := hgd hlt
          refine rn ?_
          refine sIa tb i ?_ (hs := fun _ => ⟨_, huW⟩) (hj := fun _ => ⟨rfl, by rw [hml]; exact hlt⟩)
          refine rn ?_
          refine sAd tb (r := ((c + a + d : Nat) : Int)) ?_ (hp := (wrap_i64 (n := ((c + a : Nat) : Int) + (d : Nat)) (by omega) (by omega)).trans (by omega))
          refine rn ?_
          exact G.met () (by repeat (first | exact Sub.nil _ | refine Sub.cons rfl ?_)) rfl
        · have h0 := hod2 (by omega)
          subst h0
          refine rn ?_
          exact G.met () (by repeat (first | exact Sub.nil _ | refine Sub.cons rfl ?_)) rfl
    · first | refine G.condD rfl (fun hc => ?_) (fun hc => ?_) | refine G.condN rfl (fun hc => ?_) (fun hc => ?_) | refine G.cond rfl (fun hc => ?_) (fun hc => ?_)
      · have hlt : i < l.length := by omega
        have hget := hga hlt
        refine rn ?_
        refine sIa tb i ?_ (hs := fun _ => ⟨_, hvW⟩) (hj := fun _ => ⟨rfl, by rw [hll]; exact hlt⟩)
        refine rn ?_
        refine sAd tb (r := ((c + a : Nat) : Int)) ?_ (hp := (wrap_i64 (n := ((c : Nat) : Int) + (a : Nat)) (by omega) (by omega)).trans (by omega))
        refine rn ?_
        exact G.met () (by repeat (first | exact Sub.nil _ | refine Sub.cons rfl ?_)) rfl
      · have h0 := hoa (by omega)
        subst h0
        refine rn ?_
        exact G.met () (by repeat (first | exact Sub.nil _ | refine Sub.cons rfl ?_)) rfl
  · have hh : l.length ≤ i ∧ m.length ≤ i ∧ c = 0 := by
      simp only [Bool.or_eq_false_iff, decide_eq_false_iff_not] at hc
      omega
    obtain ⟨h1, h2, rfl⟩ := hh
    rw [List.take_of_length_le h1, List.take_of_length_le h2, Nat.mul_zero, Nat.add_zero] at he
    refine rn ?_
    refine G.ret1 rfl rfl rfl rfl ?_
    exact ⟨⟨o, ⟨ho.sli, ⟨hod, htop (by omega) rfl⟩⟩, he, by omega⟩, hx⟩
end Go.Proofs.YtcngoccnfmhhnaaGreatDoor
end
section
open Go Go.Vg Go.RowKit Go.Proofs Go.Proofs.YtcngoccnfmhhnaaGreatDoor
namespace Go.Proofs.YtcngoccnfmhhnaaGreatDoor
open Go.Nm

set_option maxHeartbeats 4000000 in
theorem nearer_ok (b : Nat) (v u : Value) (l m : List Nat) (x y : Int) (w : World) (hbi : b < infB) (hv : Rt w v l) (hu : Rt w u m) (hl : l.length ≤ 1000) (hm : m.length ≤ 1000) (hx1 : -5000 ≤ x) (hx2 : x ≤ 5000) :
    Ret Tryz.prog 110 ⟨[.int .u64 b, .agg ⟨[v, .int .i64 x]⟩, .agg ⟨[u, .int .i64 y]⟩]⟩ w fun r w' => (∃ z : Int, r = .int .i64 z) ∧ Ext w w' := by
  have hinf : infB = 9218868437227405312 := by decide
  have hkb := kB_bd (b := b) (by omega)
  have hmb := (bits_of b).2.1
  refine ret_of_G Tryz.func110 rfl Tryz.ntmps110 rfl ?_
  simp only [argEnv]
  refine rn ?_
  refine sBox (us := [v, .int .i64 x]) (fun W1 hb1 hs1 hx01 => ?_) (hv := rfl)
  refine sBox (us := [u, .int .i64 y]) (fun W2 hb2 hs2 hx12 => ?_) (hv := rfl)
  have hb1 := hb1.to hx12
  have hx02 := hx01.trans hx12
  refine rn ?_
  refine sCall c130 (parts_ok b W2 (by omega)) ?_
  rintro _ W3 ⟨rfl, hx23⟩
  have hb1 := hb1.to hx23
  have hb2 := hb2.to hx23
  have hx03 := hx02.trans hx23
  refine rn ?_
  refine sCall c136 (addR_ok v u l m W3 (hv.to hx03) (hu.to hx03) (by omega) (by omega)) ?_
  rintro sv W4 ⟨⟨o, ho, hov, hol⟩, hx34⟩
  have hb1 := hb1.to hx34
  have hb2 := hb2.to hx34
  have hx04 := hx03.trans hx34
  obtain ⟨sa, sc, rfl, -⟩ := ho.sl.len
  refine rn ?_
  refine sAd tb (r := ((2 * mB b : Nat) : Int)) ?_ (hp := (wrap_i64 (n := 2 * ((mB b : Nat) : Int)) (by omega) (by omega)).trans (by omega))
  refine rn ?_
  refine sCall c131 (below_ok (2 * mB b) ((kB b : Int) - 1074) _ o x W4 ho (by omega) (by omega) (by omega) (by omega) hx1 hx2) ?_
  rintro _ W5 ⟨rfl, hx45⟩
  refine rn ?_
  refine G.ret1 rfl rfl rfl rfl ?_
  exact ⟨⟨_, rfl⟩, hx04.trans hx45⟩
end Go.Proofs.YtcngoccnfmhhnaaGreatDoor
end
section
open Go Go.Vg Go.RowKit Go.Proofs Go.Proofs.YtcngoccnfmhhnaaGreatDoor
namespace Go.Proofs.YtcngoccnfmhhnaaGreatDoor
namespace Num
open Go.Nm (numL numL_snoc numL_lt numL_ge allD)

theorem byIN {n : Nat} (h : n < 10) : (byI (48 + (n : Int))).toNat = 48 + n := by
  have := byI_int (48 + (n : Int)); omega
theorem dig_iff (c : UInt8) : dig c = true ↔ 48 ≤ c.toNat ∧ c.toNat ≤ 57 := by
  unfold dig rngC
  simp only [Bool.and_eq_true, decide_eq_true_eq]
  omega
theorem digF_head : ∀ (f n : Nat), 0 < n → n < 10 ^ (f + 1) → (digF f n).head? ≠ some 48
  | 0, n, h0, h => by
    simp only [digF, List.head?_cons, ne_eq, Option.some.injEq]
    intro e
    have := congrArg UInt8.toNat e
    rw [byIN (by omega)] at this
    simp at this; omega
  | f + 1, n, h0, h => by
    simp only [digF]
    split
    · simp only [List.head?_cons, ne_eq, Option.some.injEq]
      intro e
      have := congrArg UInt8.toNat e
      rw [byIN (by omega)] at this
      simp at this; omega
    · have ih := digF_head f (n / 10) (by omega) (by rw [Nat.pow_succ] at h; exact Nat.div_lt_of_lt_mul (by rw [Nat.mul_comm]; exact h))
      have hne : digF f (n / 10) ≠ [] := by
        cases f <;> simp only [digF]
        · simp
        · split <;> simp
      cases he : digF f (n / 10) with
      | nil => exact absurd he hne
      | cons a t => rw [he] at ih; exact ih
theorem plain_step (n : Int) (D : List UInt8) (w : World) (h1 : -9223372036854775808 ≤ n) (h2 : n ≤ 9223372036854775807) (hl : D.length ≤ 100) (hD : 10 ≤ n.natAbs → ∀ w : World, Ret Tryz.prog 79 ⟨[.int .i64 (n.tdiv 10)]⟩ w fun r w' => r = S D ∧ Ext w w') :
    Ret Tryz.prog 79 ⟨[.int .i64 n]⟩ w fun r w' => r = S (if n.natAbs < 10 then [byI (48 + (n.natAbs : Int))] else D ++ [byI (48 + ((n.natAbs % 10 : Nat) : Int))]) ∧ Ext w w' := by
  have ha : (n.tmod 10).natAbs = n.natAbs % 10 := Int.natAbs_tmod n 10
  have hb : (n.tdiv 10).natAbs = n.natAbs / 10 := Int.natAbs_tdiv n 10
  obtain ⟨r, hr⟩ : ∃ r, n.tmod 10 = r := ⟨_, rfl⟩
  obtain ⟨q, hq⟩ : ∃ q, n.tdiv 10 = q := ⟨_, rfl⟩
  rw [hr] at ha
  rw [hq] at hb hD
  have hr9 := Nat.mod_lt n.natAbs (show 0 < 10 by decide)
  refine ret_of_G Tryz.func79 rfl Tryz.ntmps79 rfl ?_
  simp only [argEnv]
  refine rn ?_
  refine sRem hr ?_
  refine rn ?_
  refine G.join (fun _ : Unit => [(0, none, .int .i64 n), (3, none, .int .i64 ((n.natAbs % 10 : Nat) : Int))]) (fun _ w' => w' = w) ?_ ?_
  · rintro _ w_ rfl
    refine rn ?_
    refine sAd tb ?_
    refine sCb tb ?_
    refine sBs' tb (bysC [byI (48 + ((n.natAbs % 10 : Nat) : Int))]) ?_ (hkl := bysC_k _)
    intro v1 w1 ho1 hs1 hx1
    refine sByS tb ho1.sli ?_
    refine rn ?_
    refine sQuo (r := q) (by rw [hq]; exact wrap_i64 (by omega) (by omega)) ?_
    refine rn ?_
    first | refine G.condD rfl (fun hc => ?_) (fun hc => ?_) | refine G.condN rfl (fun hc => ?_) (fun hc => ?_) | refine G.cond rfl (fun hc => ?_) (fun hc => ?_)
    · have : n.natAbs < 10 := by omega
      rw [if_pos this]
      refine rn ?_
      refine G.ret1 rfl rfl rfl rfl ?_
      exact ⟨by rw [Nat.mod_eq_of_lt this], hx1⟩
    · have : ¬ n.natAbs < 10 := by omega
      rw [if_neg this]
      refine rn ?_
      refine sQuo (r := q) (by rw [hq]; exact wrap_i64 (by omega) (by omega)) ?_
      refine sCall c79 (hD (by omega) w1) ?_
      rintro _ w2 ⟨rfl, hx2⟩
      refine rn ?_
      refine sCat tb ?_
      refine rn ?_
      refine G.ret1 rfl rfl rfl rfl ?_
      exact ⟨rfl, hx1.trans hx2⟩
  · first | refine G.condD rfl (fun hc => ?_) (fun hc => ?_) | refine G.condN rfl (fun hc => ?_) (fun hc => ?_) | refine G.cond rfl (fun hc => ?_) (fun hc => ?_)
    · refine rn ?_
      refine GL.cons (Step.neg (r := ((n.natAbs % 10 : Nat) : Int)) rfl (Op1.of rfl (by first | exact fun _ => rfl | exact fun h => h | exact fun h => bL h | exact fun h => bL (bL h) | exact fun h => bL (bL (bL h)))) ((wrap_i64 (n := 0 - r) (by omega) (by omega)).trans (by omega)) rfl ?_)
      refine rn ?_
      exact G.met () (by repeat (first | exact Sub.nil _ | refine Sub.cons rfl ?_)) rfl
    · obtain rfl : r = ((n.natAbs % 10 : Nat) : Int) := by omega
      refine rn ?_
      exact G.met () (by repeat (first | exact Sub.nil _ | refine Sub.cons rfl ?_)) rfl
theorem plain_ok : ∀ (f : Nat) (n : Int), n.natAbs < 10 ^ (f + 1) → -9223372036854775808 ≤ n → n ≤ 9223372036854775807 → f ≤ 30 → ∀ w : World,
    Ret Tryz.prog 79 ⟨[.int .i64 n]⟩ w fun r w' => r = S (digF f n.natAbs) ∧ Ext w w'
  | 0, n, h, h1, h2, _, w => by
    have := plain_step n [] w h1 h2 (by simp) (fun h' => by omega)
    rw [if_pos (by omega)] at this
    exact this
  | f + 1, n, h, h1, h2, hf, w => by
    have hb : (n.tdiv 10).natAbs = n.natAbs / 10 := Int.natAbs_tdiv n 10
    have hl := digF_len f (n.natAbs / 10)
    have := plain_step n (digF f (n.natAbs / 10)) w h1 h2 (by omega) (fun _ w' => by
      have := plain_ok f (n.tdiv 10) (by rw [hb]; rw [Nat.pow_succ] at h; exact Nat.div_lt_of_lt_mul (by rw [Nat.mul_comm]; exact h)) (by omega) (by omega) (by omega) w'
      rw [hb] at this; exact this)
    exact this
theorem refIntText_ok (n : Int) (w : World) (h1 : -9223372036854775808 ≤ n) (h2 : n ≤ 9223372036854775807) : Ret Tryz.prog 46 ⟨[.int .i64 n]⟩ w fun r w' => r = S (decN n) ∧ Ext w w' := by
  have hp := plain_ok 19 n (by omega) h1 h2 (by omega)
  have hl := digF_len 19 n.natAbs
  refine ret_of_G Tryz.func46 rfl Tryz.ntmps46 rfl ?_
  simp only [argEnv]
  refine rn ?_
  first | refine G.condD rfl (fun hc => ?_) (fun hc => ?_) | refine G.condN rfl (fun hc => ?_) (fun hc => ?_) | refine G.cond rfl (fun hc => ?_) (fun hc => ?_)
  · refine rn ?_
    refine sCall c79 (hp w) ?_
    rintro _ w1 ⟨rfl, hx1⟩
    refine sCat tb ?_
    refine rn ?_
    refine G.ret1 rfl rfl rfl rfl ?_
    exact ⟨by unfold decN; rw [if_pos hc]; rfl, hx1⟩
  · refine rn ?_
    refine sCall c79 (hp w) ?_
    rintro _ w1 ⟨rfl, hx1⟩
    refine rn ?_
    refine G.ret1 rfl rfl rfl rfl ?_
    exact ⟨by unfold decN; rw [if_neg hc], hx1⟩


theorem allR_all {l : List UInt8} (h : ∀ c ∈ l, dig c = true) : runP l = l.length := by
  unfold runP
  congr 1
  induction l with
  | nil => rfl
  | cons c l ih => rw [List.takeWhile_cons, h c (List.mem_cons_self ..), if_pos rfl, ih fun x hx => h x (List.mem_cons_of_mem _ hx)]
end Num
end Go.Proofs.YtcngoccnfmhhnaaGreatDoor
end
section
open Go Go.Vg Go.RowKit Go.Proofs Go.Proofs.YtcngoccnfmhhnaaGreatDoor
namespace Go.Proofs.YtcngoccnfmhhnaaGreatDoor
open Go.Nm

theorem numL_app : ∀ (a b : List UInt8) (n : Nat), numL (a ++ b) n = numL b (numL a n)
  | [], b, n => rfl
  | c :: a, b, n => numL_app a b _
theorem numL_base : ∀ (b : List UInt8) (n : Nat), numL b n = n * 10 ^ b.length + numL b 0
  | [], n => by simp [numL]
  | c :: b, n => by
    rw [numL, numL, numL_base b (10 * n + (c.toNat - 48)), numL_base b (10 * 0 + (c.toNat - 48)), List.length_cons, Nat.pow_succ, Nat.add_mul, Nat.add_mul]
    have e : n * (10 ^ b.length * 10) = 10 * n * 10 ^ b.length := by rw [Nat.mul_comm (10 ^ b.length) 10, ← Nat.mul_assoc, Nat.mul_comm n 10]
    rw [e]
    omega
theorem digF_val : ∀ (f n : Nat), n < 10 ^ (f + 1) → numL (Num.digF f n) 0 = n ∧ allD (Num.digF f n)
  | 0, n, h => by
    have hb := Num.byIN (n := n) (by omega)
    refine ⟨?_, fun c hc => ?_⟩
    · simp only [Num.digF, numL]; omega
    · simp only [Num.digF, List.mem_singleton] at hc
      subst hc; omega
  | f + 1, n, h => by
    have hb := fun k hk => Num.byIN (n := k) hk
    simp only [Num.digF]
    split
    · have h1 := hb n (by omega)
      refine ⟨?_, fun c hc => ?_⟩
      · simp only [numL]; omega
      · rw [List.mem_singleton] at hc
        subst hc; omega
    · obtain ⟨i1, i2⟩ := digF_val f (n / 10) (by rw [Nat.pow_succ] at h; exact Nat.div_lt_of_lt_mul (by rw [Nat.mul_comm]; exact h))
      have h1 := hb (n % 10) (by omega)
      refine ⟨?_, fun c hc => ?_⟩
      · rw [numL_snoc, i1]; omega
      · rcases List.mem_append.1 hc with hc | hc
        · exact i2 c hc
        · rw [List.mem_singleton] at hc
          subst hc; omega
theorem digF_ne : ∀ (f n : Nat), Num.digF f n ≠ []
  | 0, n => by simp [Num.digF]
  | f + 1, n => by
    simp only [Num.digF]
    split <;> simp
set_option maxHeartbeats 4000000 in
theorem textR_ok (v : Value) (l : List Nat) (w : World) (hv : Rt w v l) (hl : l.length ≤ 10000) :
    Ret Tryz.prog 111 ⟨[v]⟩ w fun r w' => (∃ s, r = S s ∧ allD s ∧ numL s 0 = vL 10000 l ∧ (l ≠ [] → s ≠ [] ∧ s.head? ≠ some 48) ∧ s.length ≤ 4 * l.length) ∧ Ext w w' := by
  have hvs := hv.sl
  have hll : (l.map i64C).length = l.length := List.length_map ..
  refine ret_of_G Tryz.func111 rfl Tryz.ntmps111 rfl ?_
  simp only [argEnv]
  refine rn ?_
  rw [hll]
  refine rn ?_
  refine sAd tb (r := ((l.length : Nat) : Int) - 1) ?_ (hp := wrap_i64 (by omega) (by omega))
  refine rn ?_
  refine (G.loop (fun x : Nat × List UInt8 => [(0, none, v), (3, none, S x.2), (4, none, .int .i64 ((x.1 : Int) - 1))]) (fun x W => Ext w W ∧ x.1 ≤ l.length ∧ allD x.2 ∧ numL x.2 0 = vL 10000 (l.drop x.1) ∧ (x.1 = l.length → x.2 = []) ∧ (x.1 < l.length → x.2 ≠ [] ∧ x.2.head? ≠ some 48) ∧ x.2.length ≤ 4 * (l.length - x.1)) (fun x => x.1) (l.length, []) (by repeat (first | exact Sub.nil _ | refine Sub.cons rfl ?_)) ⟨Ext.refl _, Nat.le_refl _, (by intro c hc; cases hc), (by rw [List.drop_length]; rfl), fun _ => rfl, fun h => absurd h (Nat.lt_irrefl _), Nat.zero_le _⟩ ?_)
  rintro ⟨k, s⟩ W ⟨hx, hk, hsd, hsv, hs0, hs1, hsl⟩
  simp only at hk hsd hsv hs0 hs1 hsl ⊢
  have hvW := hvs.to hx
  refine rn ?_
  first | refine G.condD rfl (fun hc => ?_) (fun hc => ?_) | refine G.condN rfl (fun hc => ?_) (fun hc => ?_) | refine G.cond rfl (fun hc => ?_) (fun hc => ?_)
  · have hk0 : 0 < k := by omega
    have hlt : k - 1 < l.length := by omega
    have hget : (l.map i64C)[k - 1]? = some (i64C l[k - 1]) := by rw [List.getElem?_map, List.getElem?_eq_getElem hlt]; rfl
    have hxl := hv.nr.lt l[k - 1] (List.getElem_mem hlt)
    have hdr : l.drop (k - 1) = l[k - 1] :: l.drop k := by
      have := List.drop_eq_getElem_cons hlt
      rwa [show k - 1 + 1 = k by omega] at this
    have htop : k = l.length → l[k - 1] ≠ 0 := fun e => by
      have := hv.nr.top (fun h => by rw [h, List.length_nil] at hlt; omega)
      rw [List.getLast_eq_getElem] at this
      simp only [← e] at this
      exact this
    generalize l[k - 1] = x at hget hxl hdr htop
    refine rn ?_
    refine sIa tb (k - 1) ?_ (hs := fun _ => ⟨_, hvW⟩) (hj := fun _ => ⟨by omega, by rw [hll]; exact hlt⟩)
    refine rn ?_
    refine sCall c79 (Num.plain_ok 3 (x : Nat) (by rw [Int.natAbs_natCast]; omega) (by omega) (by omega) (by omega) W) ?_
    rintro _ W2 ⟨rfl, hx2⟩
    rw [Int.natAbs_natCast]
    obtain ⟨hp1, hp2⟩ := digF_val 3 x (by omega)
    have hpl := Num.digF_len 3 x
    have hpn := digF_ne 3 x
    have hph : 0 < x → (Num.digF 3 x).head? ≠ some 48 := fun h => Num.digF_head 3 x h (by omega)
    generalize Num.digF 3 x = p at hp1 hp2 hpl hpn hph ⊢
    have hx2' := hx.trans hx2
    refine rn ?_
    refine (G.loop (fun t : List UInt8 => [(0, none, v), (3, none, S s), (4, none, .int .i64 ((k : Int) - 1)), (5, none, S t)]) (fun t W => Ext w W ∧ allD t ∧ numL t 0 = x ∧ t.length ≤ 4 ∧ t ≠ [] ∧ (k = l.length → t = p)) (fun t => 4 - t.length) p (by repeat (first | exact Sub.nil _ | refine Sub.cons rfl ?_)) ⟨hx2', hp2, hp1, hpl, hpn, fun _ => rfl⟩ ?_)
    clear hx2 hx2' hvW hx
    rintro t W ⟨hx, htd, htv, htl, htn, htp⟩
    have hvW := hvs.to hx
    refine rn ?_
    rw [hll]
    refine rn ?_
    refine sAd tb (r := ((l.length : Nat) : Int) - 1) ?_ (hp := wrap_i64 (by omega) (by omega))
    refine rn ?_
    refine G.cond rfl (fun hc => ?_) (fun hc => ?_)
    · have hc' : k < l.length ∧ t.length < 4 := by
        simp only [Bool.and_eq_true, decide_eq_true_eq] at hc
        omega
      refine rn ?_
      refine sCat tb ?_
      refine rn ?_
      refine G.lp (x := t) (48 :: t) (by repeat (first | exact Sub.nil _ | refine Sub.cons rfl ?_)) ⟨hx, ?_, htv, by simp only [List.length_cons]; omega, by simp, fun h => by omega⟩ (by simp only [List.length_cons]; omega)
      intro c hcm
      rcases List.mem_cons.1 hcm with rfl | h
      · exact ⟨by decide, by decide⟩
      · exact htd c h
    · have hc' : k = l.length ∨ t.length = 4 := by
        by_cases h1 : k < l.length
        · right
          rw [decide_eq_true (show (k : Int) - 1 < (l.length : Int) - 1 by omega)] at hc
          have : ¬ (t.length : Int) < 4 := by simpa using hc
          omega
        · left; omega
      refine rn ?_
      refine sCat tb ?_ (hk := by have h1 : s.length ≤ 40000 := by omega
                                  have h2 : (s ++ t).length ≤ 40004 := by rw [List.length_append]; omega
                                  omega)
      refine rn ?_
      refine sAd tb (r := ((k - 1 : Nat) : Int) - 1) ?_ (hp := (wrap_i64 (n := (k : Int) - 1 - 1) (by omega) (by omega)).trans (by omega))
      refine rn ?_
      refine G.lp (x := (k, s)) (k - 1, s ++ t) (by repeat (first | exact Sub.nil _ | refine Sub.cons rfl ?_)) ⟨hx, by show k - 1 ≤ l.length; omega, ?_, ?_, fun h => ?_, fun _ => ⟨by simp [htn], ?_⟩, ?_⟩ (by show k - 1 < k; omega)
      · intro c hcm
        rcases List.mem_append.1 hcm with h | h
        · exact hsd c h
        · exact htd c h
      · show numL (s ++ t) 0 = vL 10000 (l.drop (k - 1))
        rw [numL_app, numL_base, hdr, vL, hsv, htv]
        rcases hc' with h | h
        · rw [h, List.drop_length]; simp [vL]
        · rw [h, show (10 : Nat) ^ 4 = 10000 by decide, Nat.mul_comm]; omega
      · exact absurd h (by show ¬ k - 1 = l.length; omega)
      · show (s ++ t).head? ≠ some 48
        by_cases hkl : k = l.length
        · rw [hs0 hkl, List.nil_append, htp hkl]
          exact hph (Nat.pos_of_ne_zero (htop hkl))
        · obtain ⟨h1, h2⟩ := hs1 (by omega)
          cases s with
          | nil => exact absurd rfl h1
          | cons c s => exact h2
      · show (s ++ t).length ≤ 4 * (l.length - (k - 1))
        rw [List.length_append]; omega
  · have hk0 : k = 0 := by omega
    subst hk0
    refine rn ?_
    refine G.ret1 rfl rfl rfl rfl ?_
    refine ⟨⟨s, rfl, hsd, hsv, fun h => hs1 (List.length_pos_iff.2 h), by omega⟩, hx⟩
end Go.Proofs.YtcngoccnfmhhnaaGreatDoor
end
section
open Go Go.Vg Go.RowKit Go.Proofs Go.Proofs.YtcngoccnfmhhnaaGreatDoor
namespace Go.Proofs.YtcngoccnfmhhnaaGreatDoor
open Go.Ex Go.Nm

namespace Num
theorem intL_fwd : ∀ (l : List UInt8) (a : Nat), (∀ c ∈ l, dig c = true) → numL l a ≤ 9223372036854775800 → intL (-(a : Int)) l = some (-((numL l a : Nat) : Int))
  | [], a, _, _ => rfl
  | c :: l, a, hd, hm => by
    have hc := (dig_iff c).1 (hd c (List.mem_cons_self ..))
    have htd : (-9223372036854775808 + ((c.toNat : Int) - 48)).tdiv 10 = -((9223372036854775808 - ((c.toNat : Int) - 48)) / 10) := by
      rw [show (-9223372036854775808 + ((c.toNat : Int) - 48)) = -(9223372036854775808 - ((c.toNat : Int) - 48)) by omega, Int.neg_tdiv, Int.tdiv_eq_ediv_of_nonneg (by omega)]
    have hge := numL_ge l (10 * a + (c.toNat - 48))
    have h10 : 1 ≤ 10 ^ l.length := Nat.pos_of_ne_zero (by simp)
    have hg2 : (10 * a + (c.toNat - 48)) * 1 ≤ (10 * a + (c.toNat - 48)) * 10 ^ l.length := Nat.mul_le_mul_left _ h10
    have e0 : numL (c :: l) a = numL l (10 * a + (c.toNat - 48)) := rfl
    rw [e0] at hm ⊢
    have e : 10 * -(a : Int) - ((c.toNat : Int) - 48) = -((10 * a + (c.toNat - 48) : Nat) : Int) := by omega
    rw [intL, htd, if_neg (by omega), e]
    exact intL_fwd l _ (fun x hx => hd x (List.mem_cons_of_mem _ hx)) hm
theorem intP_decN (n : Int) (h1 : -9007199254740992 ≤ n) (h2 : n ≤ 9007199254740992) : intP (decN n) = some n ∧ (∀ c ∈ decN n, 43 ≤ c.toNat) ∧ decN n ≠ [] ∧ (decN n).length ≤ 30 := by
  obtain ⟨v1, v2⟩ := digF_val 19 n.natAbs (by omega)
  have v3 := digF_ne 19 n.natAbs
  have v4 := digF_len 19 n.natAbs
  have v5 : n.natAbs = 0 ∨ (digF 19 n.natAbs).head? ≠ some 48 := by
    by_cases h : n.natAbs = 0
    · exact .inl h
    · exact .inr (digF_head 19 _ (by omega) (by omega))
  have v6 : digF 19 0 = [48] := by decide
  have hl : intL 0 (digF 19 n.natAbs) = some (-((numL (digF 19 n.natAbs) 0 : Nat) : Int)) := intL_fwd (digF 19 n.natAbs) 0 (fun c hc => (dig_iff c).2 (v2 c hc)) (by omega)
  rw [v1] at hl
  have hrun := allR_all (l := digF 19 n.natAbs) fun c hc => (dig_iff c).2 (v2 c hc)
  obtain ⟨d, r, hdr⟩ := List.exists_cons_of_ne_nil v3
  have hd48 := v2 d (by rw [hdr]; exact List.mem_cons_self)
  unfold decN
  by_cases hn : n < 0
  · rw [if_pos hn]
    have hp : Lib.hasPrefix (45 :: digF 19 n.natAbs) [45] = true := by simp [Lib.hasPrefix]
    have hr : restP (45 :: digF 19 n.natAbs) = digF 19 n.natAbs := by unfold restP; rw [if_pos hp]; rfl
    refine ⟨?_, fun c hc => ?_, by simp, by simp only [List.length_cons]; omega⟩
    · unfold intP badP
      rw [hr, hrun, decide_eq_false v3, hl, if_neg, hp]
      · simp only [if_true]
        congr 1; omega
      · rcases v5 with h | h
        · omega
        · rw [hdr] at h ⊢
          simp only [List.head?_cons, ne_eq, Option.some.injEq] at h
          have : ¬ ((d.toNat : Int) = 48) := fun e => h (by rw [← UInt8.toNat_inj]; show _ = 48; omega)
          simp [this]
    · rcases List.mem_cons.1 hc with rfl | hc
      · decide
      · have := v2 c hc; omega
  · rw [if_neg hn]
    have hp : ¬ Lib.hasPrefix (digF 19 n.natAbs) [45] = true := by
      rw [hdr]
      intro h
      simp only [Lib.hasPrefix, List.isPrefixOf, Bool.and_true, beq_iff_eq] at h
      rw [← h] at hd48
      simp at hd48
    have hr : restP (digF 19 n.natAbs) = digF 19 n.natAbs := by unfold restP; rw [if_neg hp]
    refine ⟨?_, fun c hc => ?_, v3, by omega⟩
    · unfold intP badP
      rw [hr, hrun, decide_eq_false v3, hl, if_neg]
      · simp only
        rw [if_neg hp, if_neg (by omega)]
        congr 1; omega
      · rcases v5 with h | h
        · rw [h, v6]; decide
        · rw [hdr] at h ⊢
          simp only [List.head?_cons, ne_eq, Option.some.injEq] at h
          have : ¬ ((d.toNat : Int) = 48) := fun e => h (by rw [← UInt8.toNat_inj]; show _ = 48; omega)
          simp [this]
    · have := v2 c hc; omega
end Num
/-- a line to be written, and its number's texts -/
structure Wl where
  set : List Lab.Lab
  v : Nat
  t : Option Int
  ft : List UInt8
  tt : Option (List UInt8)
structure Wl.Ok (x : Wl) : Prop where
  set : SetOk x.set
  name : Lab.getL x.set nameB ≠ []
  val : TextR x.v x.ft
  time : TimeR x.tt x.t
def Wl.text (x : Wl) : List UInt8 := setT x.set x.ft x.tt
def Wl.smp (x : Wl) : LineS × List Lab.Lab := (⟨Lab.getL x.set nameB, Lab.pickL x.set [nameB] false, x.v, x.t⟩, x.set)
/-- the body -/
def bodyW (l : List Wl) : List UInt8 := l.flatMap fun x => x.text ++ [10]
theorem linesP_body : ∀ {l : List Wl}, (∀ x ∈ l, x.Ok) → linesP (bodyW l) = l.map Wl.text
  | [], _ => rfl
  | x :: l, h => by
    have hx := h x List.mem_cons_self
    have hno := (set_line hx.set hx.name hx.val hx.time).2.1
    have e : bodyW (x :: l) = x.text ++ 10 :: bodyW l := by simp [bodyW]
    rw [e]
    have := linesGo_cut x.text [] (bodyW l) fun k hk => hno 10 (List.mem_of_getElem? hk) rfl
    unfold linesP at *
    rw [this, List.nil_append, List.map_cons]
    congr 1
    exact linesP_body (fun y hy => h y (List.mem_cons_of_mem _ hy))
theorem readR_body {metB : List UInt8 → Bool} {lim : Int} : ∀ {l : List Wl} (k : Nat) (st : RSt (LineS × List Lab.Lab)), (∀ x ∈ l, x.Ok) → ((st.smps.length : Int) + l.length ≤ lim → readR metB lineR lim k st (l.map Wl.text) = .ok ⟨st.smps ++ l.map Wl.smp, st.fams⟩) ∧
    ((st.smps.length : Int) ≤ lim → lim < st.smps.length + l.length → readR metB lineR lim k st (l.map Wl.text) = .error (k + (lim - st.smps.length).toNat, 11))
  | [], k, st, _ => ⟨fun _ => by simp [readR], fun h1 h2 => by simp only [List.length_nil] at h2; omega⟩
  | x :: l, k, st, h => by
    have hx := h x List.mem_cons_self
    obtain ⟨h1, -, c, r, h3, h4⟩ := set_line hx.set hx.name hx.val hx.time
    have h1' : lineR x.text = some x.smp := h1
    have h3' : skipB x.text = c :: r := h3
    have hst := stepR_smp (metB := metB) (lineR := lineR) (lim := lim) (st := st) h3' h4
    rw [h1'] at hst
    simp only at hst
    obtain ⟨i1, i2⟩ := readR_body (metB := metB) (lim := lim) (l := l) (k + 1) ⟨st.smps ++ [x.smp], st.fams⟩ fun y hy => h y (List.mem_cons_of_mem _ hy)
    simp only [List.length_append, List.length_cons, List.length_nil] at i1 i2
    simp only [List.map_cons, readR, List.length_cons]
    refine ⟨fun hl => ?_, fun ha hb => ?_⟩
    · rw [hst, if_neg (by omega)]
      simp only
      rw [i1 (by omega)]
      simp
    · rw [hst]
      by_cases hc : lim ≤ st.smps.length
      · rw [if_pos hc]
        simp only
        rw [show (lim - (st.smps.length : Int)).toNat = 0 by omega]
        rfl
      · rw [if_neg hc]
        simp only
        rw [i2 (by omega) (by omega)]
        congr 2
        omega
theorem text_labs {x : Wl} (h : x.Ok) {L : LineS} (hL : sampleP Num.intP x.text = some L) : L.labs.length ≤ 999 := by
  obtain ⟨h1, -, -⟩ := set_line h.set h.name h.val h.time
  have h1' : lineR x.text = some x.smp := h1
  unfold lineR at h1'
  split at h1'
  · cases h1'
  · rw [hL] at h1'
    simp only at h1'
    split at h1'
    · cases h1'
    · split at h1'
      · simp only [Option.some.injEq, Wl.smp, Prod.mk.injEq] at h1'
        rw [h1'.1]
        have := h.set.few
        have := Lab.pickL_len x.set [nameB] false
        simp only
        omega
      · cases h1'
end Go.Proofs.YtcngoccnfmhhnaaGreatDoor
end
section
open Go Go.Vg Go.RowKit Go.Proofs Go.Proofs.YtcngoccnfmhhnaaGreatDoor
namespace Go.Proofs.YtcngoccnfmhhnaaGreatDoor
open Go.Nm

/-- the number of some digits -/
def kD (ds : List Nat) : Nat := ds.foldl (fun k d => 10 * k + d) 0
theorem kD_snoc (ds : List Nat) (d : Nat) : kD (ds ++ [d]) = 10 * kD ds + d := by simp [kD]
set_option maxHeartbeats 4000000 in
theorem expansion_ok (b : Nat) (w : World) (hb : 0 < b) (hbi : b < infB) :
    Ret Tryz.prog 106 ⟨[.int .u64 b]⟩ w fun r w' => (∃ (x : Int) (v : Value) (ds : List Nat), r = .tuple ⟨[v, .int .i64 x]⟩ ∧ Sli w' v 1 (ds.map i64C) ∧ ds.length = 18 ∧ (∀ d ∈ ds, d ≤ 9) ∧ -330 ≤ x ∧ x ≤ 309 ∧ 0 ≤ belowP (mB b) ((kB b : Int) - 1074) 1 (x - 1) ∧ belowP (mB b) ((kB b : Int) - 1074) 1 x < 0 ∧ ∀ n, n ≤ 18 → ∃ R, R < 2 ^ (-((kB b : Int) - 1074)).toNat * 10 ^ x.toNat ∧ kD (ds.take n) * (2 ^ (-((kB b : Int) - 1074)).toNat * 10 ^ x.toNat) + R = mB b * 2 ^ ((kB b : Int) - 1074).toNat * 10 ^ (-x).toNat * 10 ^ n) ∧ Ext w w' := by
  have hinf : infB = 9218868437227405312 := by decide
  have hkb := kB_bd (b := b) (by omega)
  have hmb := (bits_of b).2.1
  have hm1 : 1 ≤ mB b := by have := bits_of b; omega
  have hke : kB b ≤ 2045 := by have := bits_of b; omega
  refine ret_of_G Tryz.func106 rfl Tryz.ntmps106 rfl ?_
  simp only [argEnv]
  refine rn ?_
  refine sCall c130 (parts_ok b w (by omega)) ?_
  rintro _ W1 ⟨rfl, hx1⟩
  obtain ⟨m, hm⟩ : ∃ m, m = mB b := ⟨_, rfl⟩
  obtain ⟨e, he⟩ : ∃ e : Int, e = (kB b : Int) - 1074 := ⟨_, rfl⟩
  have he1 : -1074 ≤ e := by omega
  have he2 : e ≤ 971 := by omega
  rw [← hm] at hmb hm1 ⊢
  rw [← he]
  clear hm he hkb hke hb
  refine rn ?_
  refine (G.loop (fun k : Nat => [(4, none, .int .i64 m), (5, none, .int .i64 e), (6, none, .int .i64 k)]) (fun k W => W1 = W ∧ k ≤ 53 ∧ (k = 0 ∨ 2 ^ (k - 1) ≤ m)) (fun k => 53 - k) 0 (by repeat (first | exact Sub.nil _ | refine Sub.cons rfl ?_)) ⟨rfl, by decide, .inl rfl⟩ ?_)
  rintro k _ ⟨rfl, hk, hkm⟩
  have hp53 : 2 ^ k ≤ 2 ^ 53 := Nat.pow_le_pow_right (by decide) hk
  refine rn ?_
  obtain ⟨P, hP⟩ : ∃ P, P = 2 ^ k := ⟨_, rfl⟩
  rw [← hP] at hp53
  have hwr : IntKind.i64.wrap (1 * 2 ^ k) = ((P : Nat) : Int) := by
    have e1 : (1 : Int) * 2 ^ k = ((P : Nat) : Int) := by rw [hP]; simp
    rw [e1]
    exact wrap_i64 (by omega) (by omega)
  refine sShl (n := k) hwr ?_ (hb := by show k ≤ 64; omega)
  refine rn ?_
  first | refine G.condD rfl (fun hc => ?_) (fun hc => ?_) | refine G.condN rfl (fun hc => ?_) (fun hc => ?_) | refine G.cond rfl (fun hc => ?_) (fun hc => ?_)
  · have hle : 2 ^ k ≤ m := by rw [← hP]; omega
    have hk53 : k < 53 := Decidable.byContradiction fun h => by
      have : k = 53 := by omega
      subst this; omega
    refine rn ?_
    refine sAd tb ?_
    refine rn ?_
    exact G.lp (x := k) (k + 1) (by repeat (first | exact Sub.nil _ | refine Sub.cons rfl ?_)) ⟨rfl, hk53, .inr hle⟩ (by omega)
  have hlt : m < 2 ^ k := by rw [← hP]; omega
  obtain ⟨p, rfl, hpm⟩ : ∃ p, k = p + 1 ∧ 2 ^ p ≤ m := by
    rcases hkm with h | h
    · subst h; omega
    · by_cases h0 : k = 0
      · subst h0; omega
      · exact ⟨k - 1, by omega, h⟩
  clear hc hwr hP hp53 hkm
  have hg := guess_lo (e := e) hpm (by omega) (by omega)
  have hgb := guess_bd (N := e + p + 1) (by omega) (by omega)
  obtain ⟨g, hge⟩ : ∃ g, g = guess (e + p + 1) := ⟨_, rfl⟩
  have hge2 : ((e + p + 1) * 30103).tdiv 100000 = g + 2 := by rw [hge]; unfold guess; omega
  rw [← hge] at hg hgb
  clear hge
  refine rn ?_
  refine sAd tb (r := e + p + 1) ?_ (hp := (wrap_i64 (n := e + ((p + 1 : Nat) : Int)) (by omega) (by omega)).trans (by omega))
  refine sAd tb (r := (e + p + 1) * 30103) ?_ (hp := wrap_i64 (by omega) (by omega))
  refine sQuo (r := g + 2) (by rw [hge2]; exact wrap_i64 (by omega) (by omega)) ?_
  refine sAd tb (r := g) ?_ (hp := (wrap_i64 (n := g + 2 - 2) (by omega) (by omega)).trans (by omega))
  refine rn ?_
  refine (G.loop (fun x : Int => [(4, none, .int .i64 m), (5, none, .int .i64 e), (7, none, .int .i64 x)]) (fun x W => Ext w W ∧ g ≤ x ∧ x ≤ 309 ∧ 0 ≤ belowP m e 1 (x - 1)) (fun x => (310 - x).toNat) g (by repeat (first | exact Sub.nil _ | refine Sub.cons rfl ?_)) ⟨hx1, by omega, by omega, hg⟩ ?_)
  clear hg hge2
  rintro x W ⟨hx, hgx, hx309, hlo⟩
  refine rn ?_
  refine sCall c132 (ofR_ok 1 W (by decide)) ?_
  rintro sv W2 ⟨⟨o, ho, hov, hol⟩, hx2⟩
  have hx02 := hx.trans hx2
  obtain ⟨sa, sc, rfl, -⟩ := ho.sl.len
  refine rn ?_
  refine sCall c131 (below_ok m e _ o x W2 ho (by omega) (by omega) (by omega) (by omega) (by omega) (by omega)) ?_
  rintro _ W3 ⟨rfl, hx3⟩
  have hx03 := hx02.trans hx3
  rw [hov]
  refine rn ?_
  first | refine G.condD rfl (fun hc => ?_) (fun hc => ?_) | refine G.condN rfl (fun hc => ?_) (fun hc => ?_) | refine G.cond rfl (fun hc => ?_) (fun hc => ?_)
  · have hbd := exp_bd hmb (by omega) hc
    refine rn ?_
    refine sAd tb (r := x + 1) ?_ (hp := wrap_i64 (by omega) (by omega))
    refine rn ?_
    exact G.lp (x := x) (x + 1) (by repeat (first | exact Sub.nil _ | refine Sub.cons rfl ?_)) ⟨hx03, by omega, by omega, by rw [Int.add_sub_cancel]; exact hc⟩ (by omega)
  have hhi : belowP m e 1 x < 0 := by omega
  clear hc ho hov hol hx hx2 hx02 hx3
  refine rn ?_
  refine sCall c132 (ofR_ok m W3 (by omega)) ?_
  rintro av W4 ⟨⟨oa, hoa, hva, hla⟩, hx4⟩
  refine rn ?_
  refine sCall c132 (ofR_ok 1 W4 (by decide)) ?_
  rintro bv W5 ⟨⟨ob, hob, hvb, hlb⟩, hx5⟩
  have hoa := hoa.to hx5
  have hx05 := (hx03.trans hx4).trans hx5
  refine rn ?_
  refine G.join (fun y : Value × Value => [(7, none, .int .i64 x), (8, none, y.1), (9, none, y.2)]) (fun y W => Ext w W ∧ ∃ oa ob, Rt W y.1 oa ∧ Rt W y.2 ob ∧ vL 10000 oa = m * 2 ^ e.toNat ∧ vL 10000 ob = 2 ^ (-e).toNat ∧ oa.length ≤ 22000 ∧ ob.length ≤ 22000) ?_ ?_
  rotate_left
  · first | refine G.condD rfl (fun hc => ?_) (fun hc => ?_) | refine G.condN rfl (fun hc => ?_) (fun hc => ?_) | refine G.cond rfl (fun hc => ?_) (fun hc => ?_)
    · obtain ⟨n, rfl⟩ := Int.eq_ofNat_of_zero_le (show 0 ≤ e by omega)
      refine rn ?_
      refine sCall c133 (power_ok av oa 2 n W5 hoa (by omega) (.inl rfl) (by omega)) ?_
      rintro a2 W6 ⟨⟨o2, ho2, hv2, hl2⟩, hx6⟩
      refine rn ?_
      exact G.met (a2, bv) (by repeat (first | exact Sub.nil _ | refine Sub.cons rfl ?_)) ⟨hx05.trans hx6, o2, ob, ho2, hob.to hx6, by rw [hv2, hva]; rfl, by rw [hvb, show (-(n : Int)).toNat = 0 by omega], by omega, by omega⟩
    · obtain ⟨n, hn⟩ := Int.eq_ofNat_of_zero_le (show 0 ≤ 0 - e by omega)
      refine rn ?_
      refine sNeg ?_
      rw [hn]
      refine rn ?_
      refine sCall c133 (power_ok bv ob 2 n W5 hob (by omega) (.inl rfl) (by omega)) ?_
      rintro b2 W6 ⟨⟨o2, ho2, hv2, hl2⟩, hx6⟩
      refine rn ?_
      exact G.met (av, b2) (by repeat (first | exact Sub.nil _ | refine Sub.cons rfl ?_)) ⟨hx05.trans hx6, oa, o2, hoa.to hx6, ho2, by rw [hva, show e.toNat = 0 by omega, Nat.pow_zero, Nat.mul_one], by rw [hv2, hvb, Nat.one_mul, show (-e).toNat = n by omega], by omega, by omega⟩
  clear hoa hob hva hvb hla hlb hx05 hx03 hx4 hx5
  rintro ⟨av, bv⟩ W ⟨hx, oa, ob, hoa, hob, hva, hvb, hla, hlb⟩
  simp only at hoa hob ⊢
  refine rn ?_
  refine G.join (fun y : Value × Value => [(7, none, .int .i64 x), (8, none, y.1), (9, none, y.2)]) (fun y W => Ext w W ∧ ∃ oa ob, Rt W y.1 oa ∧ Rt W y.2 ob ∧ vL 10000 oa = m * 2 ^ e.toNat * 10 ^ (-x).toNat ∧ vL 10000 ob = 2 ^ (-e).toNat * 10 ^ x.toNat ∧ oa.length ≤ 60000 ∧ ob.length ≤ 60000) ?_ ?_
  rotate_left
  · first | refine G.condD rfl (fun hc => ?_) (fun hc => ?_) | refine G.condN rfl (fun hc => ?_) (fun hc => ?_) | refine G.cond rfl (fun hc => ?_) (fun hc => ?_)
    · obtain ⟨n, rfl⟩ := Int.eq_ofNat_of_zero_le (show 0 ≤ x by omega)
      refine rn ?_
      refine sCall c133 (power_ok bv ob 10 n W hob (by omega) (.inr rfl) (by omega)) ?_
      rintro b2 W6 ⟨⟨o2, ho2, hv2, hl2⟩, hx6⟩
      refine rn ?_
      exact G.met (av, b2) (by repeat (first | exact Sub.nil _ | refine Sub.cons rfl ?_)) ⟨hx.trans hx6, oa, o2, hoa.to hx6, ho2, by rw [hva, show (-(n : Int)).toNat = 0 by omega, Nat.pow_zero, Nat.mul_one], by rw [hv2, hvb]; rfl, by omega, by omega⟩
    · obtain ⟨n, hn⟩ := Int.eq_ofNat_of_zero_le (show 0 ≤ 0 - x by omega)
      refine rn ?_
      refine sNeg ?_
      rw [hn]
      refine rn ?_
      refine sCall c133 (power_ok av oa 10 n W hoa (by omega) (.inr rfl) (by omega)) ?_
      rintro a2 W6 ⟨⟨o2, ho2, hv2, hl2⟩, hx6⟩
      refine rn ?_
      exact G.met (a2, bv) (by repeat (first | exact Sub.nil _ | refine Sub.cons rfl ?_)) ⟨hx.trans hx6, o2, ob, ho2, hob.to hx6, by rw [hv2, hva, show (-x).toNat = n by omega], by rw [hvb, show x.toNat = 0 by omega, Nat.pow_zero, Nat.mul_one], by omega, by omega⟩
  clear hoa hob hva hvb hla hlb hx
  rintro ⟨av, bv⟩ W ⟨hx, oa, ob, hoa, hob, hva, hvb, hla, hlb⟩
  simp only at hoa hob ⊢
  have hab : vL 10000 oa < vL 10000 ob := by
    rw [hva, hvb]
    unfold belowP at hhi
    rw [cmpV_lt, Nat.one_mul] at hhi
    exact hhi
  obtain ⟨A, hA⟩ : ∃ A, A = vL 10000 oa := ⟨_, rfl⟩
  obtain ⟨Bv, hBv⟩ : ∃ Bv, Bv = vL 10000 ob := ⟨_, rfl⟩
  rw [← hA, ← hBv] at hab
  rw [← hA] at hva
  rw [← hBv] at hvb
  refine rn ?_
  obtain ⟨Wb, hWb⟩ : ∃ Wb, Wb = W := ⟨_, rfl⟩
  have hob0 : Rt Wb bv ob := by rw [hWb]; exact hob
  have hwb : w.heap.size ≤ Wb.heap.size := by rw [hWb]; exact hx.size
  have hxb : Ext Wb W := by rw [hWb]; exact Ext.refl _
  clear hWb
  refine (G.loop (fun z : Nat × Value × Value => [(7, none, .int .i64 x), (8, none, z.2.1), (9, none, bv), (10, none, z.2.2), (11, none, .int .i64 z.1)]) (fun z W => Ext w W ∧ z.1 ≤ 18 ∧ Ext Wb W ∧ ∃ oa ds, Rt W z.2.1 oa ∧ oa.length ≤ 60000 + 20 * z.1 ∧ Owns W Wb.heap.size z.2.2 3 1 (ds.map i64C) ∧ ds.length = z.1 ∧ (∀ d ∈ ds, d ≤ 9) ∧ vL 10000 oa < Bv ∧ kD ds * Bv + vL 10000 oa = A * 10 ^ z.1 ∧ ∀ n, n ≤ z.1 → ∃ R, R < Bv ∧ kD (ds.take n) * Bv + R = A * 10 ^ n) (fun z => 18 - z.1) (0, av, .slice none 0 0) (by repeat (first | exact Sub.nil _ | refine Sub.cons rfl ?_)) ⟨hx, by show 0 ≤ 18; omega, hxb, oa, [], hoa, by omega, Owns.nil _ _ _ _, rfl, by simp, by rw [← hA]; exact hab, by rw [← hA]; simp [kD], fun n hn => ⟨A, hab, by rw [show n = 0 from Nat.le_zero.1 hn]; simp [kD]⟩⟩ ?_)
  clear hx hoa hob hA hla hxb
  rintro ⟨i, av, ov⟩ W ⟨hx, hi, hxb, oa, ds, hoa, hla, hov, hdl, hd9, hlt, hK, hall⟩
  simp only at hi hoa hla hov hdl hK hall ⊢
  refine rn ?_
  first | refine G.condD rfl (fun hc => ?_) (fun hc => ?_) | refine G.condN rfl (fun hc => ?_) (fun hc => ?_) | refine G.cond rfl (fun hc => ?_) (fun hc => ?_)
  · have hi18 : i < 18 := by omega
    refine rn ?_
    refine sCall c107 (timesO_ok av oa 10 0 W hoa (by omega) (by decide) (by decide) (by decide)) ?_
    rintro a2 W2 ⟨⟨o2, hw2, hn2, hv2, hl2⟩, hx2⟩
    have ho2 : Rt W2 a2 o2 := ⟨hw2.sli, hn2⟩
    have hown2 : ∀ g, a2.ownBlock = some g → W.heap.size ≤ g := fun g hg => (hw2.lt g hg).1
    have hovl : ∀ g, ov.ownBlock = some g → g < W.heap.size := fun g hg => (hov.lt g hg).2
    obtain ⟨q, hq⟩ : ∃ q, q = W.heap.size := ⟨_, rfl⟩
    rw [← hq] at hown2 hovl
    have hqb : q ≤ W2.heap.size := by rw [hq]; exact hx2.size
    clear hw2 hn2
    have hxs := hx.size
    have hx2s := hx2.size
    obtain ⟨T, hT⟩ : ∃ T, T = vL 10000 o2 := ⟨_, rfl⟩
    have hTe : T = 10 * vL 10000 oa := by rw [hT, hv2]; omega
    refine rn ?_
    refine (G.loop (fun z : Nat × Value => [(7, none, .int .i64 x), (8, none, z.2), (9, none, bv), (10, none, ov), (11, none, .int .i64 i), (12, none, .int .i64 z.1)]) (fun z W => Ext w W ∧ Ext Wb W ∧ q ≤ W.heap.size ∧ Owns W Wb.heap.size ov 3 1 (ds.map i64C) ∧ (∀ g, z.2.ownBlock = some g → q ≤ g) ∧ ∃ o3, Rt W z.2 o3 ∧ o3.length ≤ oa.length + 20 ∧ vL 10000 o3 + z.1 * Bv = T) (fun z => 10 - z.1) (0, a2) (by repeat (first | exact Sub.nil _ | refine Sub.cons rfl ?_)) ⟨hx.trans hx2, hxb.trans hx2, hqb, hov.to hx2, hown2, o2, ho2, hl2, by rw [← hT]; omega⟩ ?_)
    clear hx hov ho2 hv2 hl2 hT hx2 hx2s hxs hoa hxb hown2 hqb hq
    rintro ⟨d, a3⟩ W ⟨hx, hxb, hqW, hov, hown, o3, ho3, hl3, hv3⟩
    simp only at ho3 hv3 hown ⊢
    have hob := hob0.to hxb
    have hd10 : d < 10 := by
      refine Decidable.byContradiction fun h => ?_
      have h1 : 10 * Bv ≤ d * Bv := Nat.mul_le_mul_right _ (by omega)
      omega
    refine rn ?_
    refine sCall c134 (cmpR_ok a3 bv o3 ob W ho3 hob (by omega) (by omega)) ?_
    rintro _ W2 ⟨rfl, hx2⟩
    rw [← hBv]
    refine rn ?_
    first | refine G.condD rfl (fun hc => ?_) (fun hc => ?_) | refine G.condN rfl (fun hc => ?_) (fun hc => ?_) | refine G.cond rfl (fun hc => ?_) (fun hc => ?_)
    · have hge := cmpV_ge.1 hc
      refine rn ?_
      refine sCall c135 (minusR_ok a3 bv o3 ob W2 (ho3.to hx2) (hob.to hx2) (by omega) (by rw [← hBv]; exact hge)) ?_
      rintro a4 W3 ⟨⟨o4, ho4, hv4, hl4, hown4⟩, hx3⟩
      have hx2s := hx2.size
      have hx3s := hx3.size
      rw [← hBv] at hv4
      refine rn ?_
      refine sAd tb ?_
      refine rn ?_
      exact G.lp (x := (d, a3)) (d + 1, a4) (by repeat (first | exact Sub.nil _ | refine Sub.cons rfl ?_)) ⟨(hx.trans hx2).trans hx3, (hxb.trans hx2).trans hx3, by omega, (hov.to hx2).to hx3, fun g hg => by have := hown4 g hg; omega, o4, ho4, by omega, by show vL 10000 o4 + (d + 1) * Bv = T; rw [Nat.add_mul, Nat.one_mul]; omega⟩ (by show 10 - (d + 1) < 10 - d; omega)
    · have hlt3 : vL 10000 o3 < Bv := Nat.lt_of_not_le fun h => hc (cmpV_ge.2 h)
      have hov2 := hov.to hx2
      have hxs := hx.size
      have hx2s := hx2.size
      have hdl2 : (ds.map i64C).length = i := by rw [List.length_map]; exact hdl
      refine rn ?_
      refine sBs' tb ([d].map i64C) (fun us W4 ho4 hs4 hx4 => ?_) (hkl := by simp [i64C])
      have hx4s := hx4.size
      have hxbs := hxb.size
      refine sApp tb (hov2.to hx4) ho4.sli (fun u5 W5 ho5 hg5 => ?_) (h1 := i64_one [_]) (hb := by rw [hdl2]; simp only [List.length_map, List.length_cons, List.length_nil]; omega) (hl := by rw [hdl2]; simp only [List.length_map, List.length_cons, List.length_nil]; omega)
      rw [← List.map_append] at ho5
      have hxb4 : Ext Wb W4 := (hxb.trans hx2).trans hx4
      have hxb5 : Ext Wb W5 := Below.trans (B := Wb.heap.size) hxb4 hg5.bl
      have hx05 : Ext w W5 := Below.trans (B := w.heap.size) ((hx.trans hx2).trans hx4) (hg5.bl.mono hwb)
      have ho34 := (ho3.to hx2).to hx4
      have ho35 : Rt W5 a3 o3 := ⟨ho34.sl.blk fun g hgl hg => hg5.block g hgl fun e => by have := hown g hg; have := hovl g e.symm; omega, ho34.nr⟩
      refine rn ?_
      refine sAd tb ?_
      refine rn ?_
      refine G.lp (x := (i, av, ov)) (i + 1, a3, u5) (by repeat (first | exact Sub.nil _ | refine Sub.cons rfl ?_)) ⟨hx05, hi18, hxb5, o3, ds ++ [d], ho35, by omega, ho5, by rw [List.length_append, hdl]; rfl, ?_, hlt3, ?_, ?_⟩ (by show 18 - (i + 1) < 18 - i; omega)
      · intro z hz
        rcases List.mem_append.1 hz with h | h
        · exact hd9 z h
        · rw [List.mem_singleton.1 h]; omega
      · show kD (ds ++ [d]) * Bv + vL 10000 o3 = A * 10 ^ (i + 1)
        rw [kD_snoc, Nat.pow_succ, ← Nat.mul_assoc, ← hK, Nat.add_mul, Nat.add_mul, Nat.mul_assoc 10]
        omega
      · intro n hn
        have hn : n ≤ i + 1 := hn
        by_cases hni : n ≤ i
        · obtain ⟨R, h1, h2⟩ := hall n hni
          exact ⟨R, h1, by rw [List.take_append_of_le_length (by omega)]; exact h2⟩
        · have : n = i + 1 := by omega
          subst this
          refine ⟨vL 10000 o3, hlt3, ?_⟩
          rw [List.take_of_length_le (by rw [List.length_append, hdl]; simp), kD_snoc, Nat.pow_succ, ← Nat.mul_assoc, ← hK, Nat.add_mul, Nat.add_mul, Nat.mul_assoc 10]
          omega
  · have hi18 : i = 18 := by omega
    subst hi18
    have hos := hov.sli
    refine rn ?_
    refine G.ret2 rfl rfl rfl rfl rfl ?_
    refine ⟨⟨x, ov, ds, rfl, hos, hdl, hd9, by omega, by omega, hlo, hhi, fun n hn => ?_⟩, hx⟩
    obtain ⟨R, h1, h2⟩ := hall n hn
    exact ⟨R, by rw [← hvb]; exact h1, by rw [← hvb, ← hva]; exact h2⟩
end Go.Proofs.YtcngoccnfmhhnaaGreatDoor
end
section
open Go Go.Vg Go.RowKit Go.Proofs Go.Proofs.YtcngoccnfmhhnaaGreatDoor
namespace Go.Proofs.YtcngoccnfmhhnaaGreatDoor
open Go.Nm

theorem zeros_ok (n : Int) (w : World) (hn : n ≤ 1000) : Ret Tryz.prog 80 ⟨[.int .i64 n]⟩ w fun r w' => r = S (List.replicate n.toNat 48) ∧ w' = w := by
  refine ret_of_G Tryz.func80 rfl Tryz.ntmps80 rfl ?_
  simp only [argEnv]
  refine rn ?_
  refine (G.loop (fun k : Nat => [(0, none, .int .i64 n), (3, none, S (List.replicate k 48)), (4, none, .int .i64 k)]) (fun k W => w = W ∧ k ≤ n.toNat) (fun k => n.toNat - k) 0 (by repeat (first | exact Sub.nil _ | refine Sub.cons rfl ?_)) ⟨rfl, Nat.zero_le _⟩ ?_)
  rintro k _ ⟨rfl, hk⟩
  refine rn ?_
  first | refine G.condD rfl (fun hc => ?_) (fun hc => ?_) | refine G.condN rfl (fun hc => ?_) (fun hc => ?_) | refine G.cond rfl (fun hc => ?_) (fun hc => ?_)
  · have hlt : k < n.toNat := by omega
    refine rn ?_
    refine sCat tb ?_ (hk := fun _ => by rw [List.length_replicate]; simp only [List.length_cons, List.length_nil]; omega)
    rw [← List.replicate_succ']
    refine rn ?_
    refine sAd tb ?_
    refine rn ?_
    exact G.lp (x := k) (k + 1) (by repeat (first | exact Sub.nil _ | refine Sub.cons rfl ?_)) ⟨rfl, hlt⟩ (by omega)
  · have hke : k = n.toNat := by omega
    subst hke
    refine rn ?_
    refine G.ret1 rfl rfl rfl rfl ?_
    exact ⟨rfl, rfl⟩
end Go.Proofs.YtcngoccnfmhhnaaGreatDoor
end
section
open Go Go.Vg Go.RowKit Go.Proofs Go.Proofs.YtcngoccnfmhhnaaGreatDoor
namespace Go.Proofs.YtcngoccnfmhhnaaGreatDoor
open Go.Ex

abbrev St := RSt (LineS × List Lab.Lab)
abbrev rdR (lim : Int) := readR (α := LineS × List Lab.Lab) metB lineR lim
theorem lnC2 : ∀ (ls : List (List UInt8)) (k : Nat), ∀ x ∈ lnC k ls, x.length = 2
  | [], _, x, h => by simp [lnC] at h
  | l :: r, k, x, h => by
    simp only [lnC, List.mem_cons] at h
    rcases h with rfl | h
    · rfl
    · exact lnC2 r (k + 1) x h
/-- what Read gives -/
def ReadS (lim : Int) (s : List UInt8) (w : World) (r : Value) (w' : World) : Prop :=
  Ext w w' ∧ ((∃ lv fv l fams, rdR lim 1 ⟨[], []⟩ (linesP s) = .ok ⟨l.map smP, fams⟩ ∧ r = .tuple ⟨[lv, fv, .int .i64 0, .int .i64 0]⟩ ∧ LinS w' w.heap.size lv l ∧ Owns w' w.heap.size fv 74 3 (fams.map famC)) ∨
    (∃ (n : Nat) (e : Int), rdR lim 1 ⟨[], []⟩ (linesP s) = .error (n, e) ∧ r = .tuple ⟨[.slice none 0 0, .slice none 0 0, .int .i64 n, .int .i64 e]⟩))
theorem linesGo_x10 : ∀ (s cur : List UInt8), (∀ c ∈ cur, c ≠ 10) → ∀ y ∈ linesGo cur s, ∀ c ∈ y, c ≠ 10
  | [], cur, h, y, hy => by
    unfold linesGo at hy
    split at hy
    · simp at hy
    · rw [List.mem_singleton.1 hy]; exact h
  | c :: s, cur, h, y, hy => by
    rw [linesGo] at hy
    split at hy
    · rcases List.mem_cons.1 hy with rfl | hy
      · exact h
      · exact linesGo_x10 s [] (by simp) y hy
    · rename_i hc
      refine linesGo_x10 s (cur ++ [c]) ?_ y hy
      intro d hd
      rcases List.mem_append.1 hd with hd | hd
      · exact h d hd
      · rw [List.mem_singleton.1 hd]; exact hc
theorem linesP_nl {s y : List UInt8} (h : y ∈ linesP s) : ¬ 0 ≤ nlI y := fun h0 => by
  obtain ⟨i, hi⟩ : ∃ i : Nat, nlI y = i := ⟨(nlI y).toNat, by omega⟩
  exact linesGo_x10 s [] (by simp) y h 10 (List.mem_of_getElem? (Lib.indexByte_some hi).1) rfl
set_option maxHeartbeats 4000000 in
theorem bodyR_gen (w : World) (v : Value) (s : List UInt8) (lim : Int) (hv : By w v s) (hs : s.length ≤ 100000000) (hl : ∀ x ∈ linesP s, x.length ≤ 1000000 ∧ (x.length ≤ 3996 ∨ ∀ L, sampleP Num.intP x = some L → L.labs.length ≤ 999)) (hT : Tabs w) : Ret Tryz.prog 13 ⟨[v, .int .i64 lim]⟩ w (ReadS lim s w) := by
  refine ret_of_GM Tryz.func13 rfl Tryz.ntmps13 rfl ?_
  simp only [argEnv]
  refine rn ?_
  refine sBox (fun W1 hb1 hs1 hx1 => ?_)
  refine rn ?_
  refine sAl tb (fun W2 hb2 hs2 hx2 => ?_)
  refine rn ?_
  refine sAl tb (fun W3 hb3 hs3 hx3 => ?_)
  refine rn ?_
  refine sAl tb (fun W4 hb4 hs4 hx4 => ?_)
  refine rn ?_
  refine sAl tb (fun W5 hb5 hs5 hx5 => ?_)
  refine rn ?_
  refine sMkV (fun W6 hm6 hs6 hx6 => ?_)
  refine rn ?_
  refine sBox (fun W7 hb7 hs7 hx7 => ?_)
  refine rn ?_
  refine sAl tb (fun W8 hb8 hs8 hx8 => ?_)
  refine sSt tb (fun W9 hb9 hw9 => ?_) (h1 := by simp [Value.oneCell', ptr])
  have hx08 : Ext w W8 := (((((((hx1.trans hx2).trans hx3).trans hx4).trans hx5).trans hx6).trans hx7).trans hx8)
  have hx9 : Ext w W9 := hx08.wr hw9 (by omega)
  have hz : W9.heap.size = w.heap.size + 8 := by rw [hw9.size]; omega
  have hv9 := hv.to hx9
  have b1 : Bx W9 w.heap.size [.int .i64 lim] := (((((((hb1.to hx2).to hx3).to hx4).to hx5).to hx6).to hx7).to hx8).wr hw9 (by omega)
  have b2 : Bx W9 W1.heap.size [.slice none 0 0] := ((((((hb2.to hx3).to hx4).to hx5).to hx6).to hx7).to hx8).wr hw9 (by omega)
  have b3 : Bx W9 W2.heap.size [.slice none 0 0] := (((((hb3.to hx4).to hx5).to hx6).to hx7).to hx8).wr hw9 (by omega)
  have b4 : Bx W9 W3.heap.size [.int .i64 0] := ((((hb4.to hx5).to hx6).to hx7).to hx8).wr hw9 (by omega)
  have b5 : Bx W9 W4.heap.size [.int .i64 0] := (((hb5.to hx6).to hx7).to hx8).wr hw9 (by omega)
  have b6 : Mv W9 W5.heap.size [] := ((hm6.to hx7).to hx8).kp hw9.kp (by omega)
  have b7 : Bx W9 W6.heap.size [.slice none 0 0, .map (some W5.heap.size)] := (hb7.to hx8).wr hw9 (by omega)
  have b8 : Bx W9 W7.heap.size [ptr W6.heap.size] := hb9
  clear hb1 hb2 hb3 hb4 hb5 hm6 hb7 hb8 hb9 hw9 hx08
  refine rn ?_
  refine sCall c9 (lines_ok v s W9 hv9 (by omega)) ?_
  rintro _ W0 ⟨b, v0, rfl, hb, hbx, hv0, hx0⟩
  have b1 := b1.to hx0
  have b2 := b2.to hx0
  have b3 := b3.to hx0
  have b4 := b4.to hx0
  have b5 := b5.to hx0
  have b6 := b6.to hx0
  have b7 := b7.to hx0
  have b8 := b8.to hx0
  have hx00 := hx9.trans hx0
  have hz0 := hx0.size
  have hT0 := hT.to hx00
  have hTl := hT.lt
  have hll := linesP_len s
  have hRS0 : RS W0 W0 W1.heap.size W6.heap.size W5.heap.size W0.heap.size (.slice none 0 0) (.slice none 0 0) [] [] :=
    ⟨Kq.refl _ _, b2, ⟨Owns.nil _ _ _ _, by simp, by simp, by simp⟩, ⟨b7, Owns.nil _ _ _ _, ⟨[], b6, fun m => by simp [vget]⟩, by omega, by omega, by omega⟩, by simp [Value.ownBlock], by simp, Nat.le_refl _, by omega, by omega, by omega, Nat.le_refl _⟩
  refine rn ?_
  refine G.rangeFunc rfl rfl c22 (lines1_ok v0 s b (by omega)) rfl rfl (lnC2 _ _)
    (fun i W => ∃ lv fv l fams, RS W0 W W1.heap.size W6.heap.size W5.heap.size W0.heap.size lv fv l fams ∧ fams.length ≤ i ∧ l.length ≤ i ∧ i ≤ (linesP s).length ∧ rdR lim 1 ⟨[], []⟩ (linesP s) = rdR lim (i + 1) ⟨l.map smP, fams⟩ ((linesP s).drop i))
    (fun c W => c = .ret ∧ ∃ (n : Nat) (e : Int), Kq (fun g => g < w.heap.size) w W ∧ Bx W W1.heap.size [.slice none 0 0] ∧ Bx W W2.heap.size [.slice none 0 0] ∧ Bx W W3.heap.size [.int .i64 n] ∧ Bx W W4.heap.size [.int .i64 e] ∧ rdR lim 1 ⟨[], []⟩ (linesP s) = .error (n, e)) ?_ ?_ ?_ ?_ ?_ ?_ ?_
  · rintro q hq i W W' ⟨lv, fv, l, fams, h1, h2⟩ hk
    exact ⟨lv, fv, l, fams, h1.kept hk hq, h2⟩
  · rintro q hq c W W' ⟨h1, n, e, h2, h3, h4, h5, h6, h7⟩ hk
    refine ⟨h1, n, e, ?_, h3.kept hk, h4.kept hk, h5.kept hk, h6.kept hk, h7⟩
    exact h2.trans ⟨hk.2.os, hk.2.tape, hk.2.output, hk.2.size, fun g hg hp => hk.2.block g hg (by simp only [ne_eq, Option.some.injEq]; omega)⟩
  · rintro i W ⟨lv, fv, l, fams, h1, h2⟩
    refine ⟨(hbx.same (h1.kq.same b hbx.lt ⟨by omega, by omega, by omega⟩)).cells.one, (hv0.same fun g hg e => ?_).sli⟩
    have := (hv0.lt g e).1
    exact h1.kq.same g hg ⟨by omega, by omega, by omega⟩
  · exact fun w' h => ⟨_, _, [], [], hRS0.to h, by simp, by simp, by simp, rfl⟩
  · rintro q r rc i x W hq hqr hxi ⟨lv, fv, l, fams, hR, hfi, hli, hil, he⟩ hLp
    have hio : i < (linesP s).length := by have := (List.getElem?_eq_some_iff.1 hxi).1; rw [lnC_len] at this; exact this
    obtain ⟨y, hy⟩ : ∃ y, (linesP s)[i]? = some y := ⟨_, List.getElem?_eq_getElem hio⟩
    rw [lnC_get (linesP s) 1 i y hy, Option.some.injEq] at hxi
    subst hxi
    have hym := List.mem_of_getElem? hy
    obtain ⟨hyl, hyL⟩ := hl y hym
    have hynl := linesP_nl hym
    have hdr : (linesP s).drop i = y :: (linesP s).drop (i + 1) := by
      obtain ⟨h1, rfl⟩ := List.getElem?_eq_some_iff.1 hy
      exact List.drop_eq_getElem_cons h1
    have hll1 := hll.1
    unfold rdR at he
    rw [hdr, readR] at he
    refine rn ?_
    refine G.beg rfl rfl rfl hLp hqr ?_
    intro W' hkk hLp' hsz
    have hR := hR.kept hkk hq
    clear hLp hkk hsz
    refine rn ?_
    refine sCall c26 (trimBL_ok y W') ?_
    rintro _ W2' ⟨rfl, hx2'⟩
    have hR := hR.to hx2'
    have hLp := hLp'.to hx2'
    clear hLp' hx2'
    have hsl := skipB_len y
    cases hsk : skipB y with
    | nil =>
      rw [stepR_nil hsk] at he
      simp only at he
      refine rn ?_
      exact G.nil fun t _ => ⟨hLp, lv, fv, l, fams, hR, by omega, by omega, by omega, he⟩
    | cons c t =>
      rw [hsk] at hsl
      simp only [List.length_cons] at hsl
      refine rn ?_
      refine sBs tb 0 ?_ (hj := fun _ => ⟨rfl, by simp⟩)
      refine rn ?_
      refine G.condD rfl (fun hc => ?_) (fun hc => ?_)
      · have hc35 : c = 35 := by rw [← UInt8.toNat_inj]; show c.toNat = 35; exact Int.ofNat.inj hc
        rw [stepR_said hsk hc35] at he
        have hTW : Tabs W2' := hT0.kq hR.kq ⟨by omega, by omega, by omega⟩ ⟨by omega, by omega, by omega⟩
        have hrem := remark_ok W2' t (by omega) hTW
        refine rn ?_
        refine GL.cons (Step.sliceSl tb 1 rfl (Op1.of rfl (by first | exact fun _ => rfl | exact fun h => h | exact fun h => bL h | exact fun h => bL (bL h) | exact fun h => bL (bL (bL h)))) (Op1.of rfl (by first | exact fun _ => rfl | exact fun h => h | exact fun h => bL h | exact fun h => bL (bL h) | exact fun h => bL (bL (bL h)))) rfl (fun _ => ⟨rfl, by simp⟩) rfl ?_)
        refine sCall c27 (hrem) ?_
        rintro _ W3' ⟨hx3', ⟨x, hsx, rfl⟩ | ⟨hsx, a1, a2, a3, rfl⟩⟩
        · have hR := hR.to hx3'
          have hLp := hLp.to hx3'
          have hTW := hTW.to hx3'
          have hxr := saysP_len hsx
          rw [hsx] at he
          simp only at he
          refine rn ?_
          refine sAl tb (fun Wa hba hsa hxa => ?_)
          refine sSt tb (fun Wb hbb hwb => ?_) (vs := saidC x) (hv := rfl) (h1 := said_one)
          have hxb : Ext W3' Wb := Below.wr hxa hwb (Nat.le_refl _)
          have hR := hR.to hxb
          have hLp := hLp.to hxb
          have hTW := hTW.to hxb
          have h8 : Bx Wb W7.heap.size [ptr W6.heap.size] := b8.same (hR.kq.same _ b8.lt ⟨by omega, by omega, by omega⟩)
          unfold saidC at hbb
          clear hba hxa hwb hsa
          refine rn ?_
          refine GL.cons (Step.on rfl rfl (Step.callO rfl rfl (by repeat (first | exact OpL.nil | refine OpL.cons (Op1.of rfl (by first | exact fun _ => rfl | exact fun h => h | exact fun h => bL h | exact fun h => bL (bL h) | exact fun h => bL (bL (bL h)))) ?_)) c28 rfl (takes_ok Wb W6.heap.size W5.heap.size W0.heap.size fv fams x hR.fs hR.hB (by omega) (by omega) hTW (by omega) (by omega)) ?_))
          rintro _ Wc ⟨rfl, hkc, hfc⟩
          have hLp := lp_off hLp hR.fs hkc
          cases hok : saidOk x
          · rw [hok] at he
            simp only [Bool.false_eq_true, if_false] at he
            obtain ⟨hkq, hb4⟩ := hR.off hkc rfl
            have c3 : Bx Wc W2.heap.size [.slice none 0 0] := b3.same (hkq.same _ b3.lt ⟨by omega, by omega, by omega⟩)
            have c4 : Bx Wc W3.heap.size [.int .i64 0] := b4.same (hkq.same _ b4.lt ⟨by omega, by omega, by omega⟩)
            have c5 : Bx Wc W4.heap.size [.int .i64 0] := b5.same (hkq.same _ b5.lt ⟨by omega, by omega, by omega⟩)
            have hkw : Kq (fun g => g < w.heap.size) w Wc := hx00.kq.trans (hkq.mono fun g _ hp => ⟨by omega, by omega, by omega⟩)
            refine rn ?_
            refine sSt tb (fun Wd hbd hwd => ?_) (hb := hb4)
            have hLp := hLp.wr hb4 hwd
            have c3 := c3.wr hwd (by omega)
            have c4 := c4.wr hwd (by omega)
            have c5 := c5.wr hwd (by omega)
            refine sSt tb (fun We hbe hwe => ?_) (hb := c3)
            have hLp := hLp.wr c3 hwe
            have hbd := hbd.wr hwe (by omega)
            have c4 := c4.wr hwe (by omega)
            have c5 := c5.wr hwe (by omega)
            refine sSt tb (fun Wf hbf hwf => ?_) (hb := c4)
            have hLp := hLp.wr c4 hwf
            have hbd := hbd.wr hwf (by omega)
            have hbe := hbe.wr hwf (by omega)
            have c5 := c5.wr hwf (by omega)
            refine sSt tb (fun Wg hbg hwg => ?_) (hb := c5)
            have hLp := hLp.wr c5 hwg
            have hbd := hbd.wr hwg (by omega)
            have hbe := hbe.wr hwg (by omega)
            have hbf := hbf.wr hwg (by omega)
            have hkw := (((hkw.trans (hwd.kq (by omega))).trans (hwe.kq (by omega))).trans (hwf.kq (by omega))).trans (hwg.kq (by omega))
            refine rn ?_
            refine G.ret fun t _ => ⟨hLp, rfl, 1 + i, 8, hkw, hbd, hbe, hbf, hbg, ?_⟩
            rw [show 1 + i = i + 1 by omega]
            exact he
          · rw [hok] at he
            simp only [if_true] at he
            obtain ⟨fv', hfs', hfo'⟩ := hfc hok
            have hR := hR.said hkc rfl hfs' hfo'
            have hfl := famPut_len fams x
            refine rn ?_
            exact G.nil fun t _ => ⟨hLp, lv, fv', l, famPut fams x, hR, by omega, by omega, by omega, he⟩
        · have hR := hR.to hx3'
          have hLp := hLp.to hx3'
          rw [hsx] at he
          simp only at he
          refine rn ?_
          refine sAl tb (fun Wa hba hsa hxa => ?_)
          refine sSt tb (fun Wb hbb hwb => ?_) (vs := [S a1, S a2, S a3]) (hv := rfl) (h1 := said_one)
          have hxb : Ext W3' Wb := Below.wr hxa hwb (Nat.le_refl _)
          have hR := hR.to hxb
          have hLp := hLp.to hxb
          have h8 : Bx Wb W7.heap.size [ptr W6.heap.size] := b8.same (hR.kq.same _ b8.lt ⟨by omega, by omega, by omega⟩)
          clear hba hxa hwb hsa
          refine rn ?_
          refine GL.cons (Step.off (v := .bool false) rfl (of_decide_eq_true rfl) rfl ?_)
          refine rn ?_
          exact G.nil fun t _ => ⟨hLp, lv, fv, l, fams, hR, by omega, by omega, by omega, he⟩
      · have hc35 : c ≠ 35 := fun h => hc (by rw [h]; rfl)
        rw [stepR_smp hsk hc35] at he
        have hTW : Tabs W2' := hT0.kq hR.kq ⟨by omega, by omega, by omega⟩ ⟨by omega, by omega, by omega⟩
        have hn9 : ∀ t L, t <+: y → (t = y ∨ 0 ≤ nlI y) → sampleP Num.intP t = some L → L.labs.length ≤ 999 := by
          intro t L ht hor hL
          rcases hyL with hy4 | hyL
          · have h1 := (sampleP_len hL).1
            have h2 := ht.length_le
            omega
          · rcases hor with rfl | h0
            · exact hyL L hL
            · exact absurd h0 hynl
        refine rn ?_
        refine sCall c24 (readLine_ok W2' y (by omega) hTW hn9) ?_
        rintro _ W3' ⟨hx3', ⟨L, u, out, ⟨hnl, hLI⟩, rfl, hou⟩ | ⟨hno, a1, e1, he1, rfl⟩⟩
        · rw [lineR_ok hnl hLI] at he
          simp only [List.length_map] at he
          have hoW : ∀ g, u.ownBlock = some g → lv.ownBlock ≠ some g ∧ fv.ownBlock ≠ some g := fun g hg => by
            have h1 := (hou.lt g hg).1
            exact ⟨fun e => by have := (hR.ls.ow.lt g e).2; omega, fun e => by have := (hR.fs.ow.lt g e).2; omega⟩
          have hoD : ∀ z ∈ l, ∀ g, z.v.ownBlock = some g → u.ownBlock ≠ some g := fun z hz g hg e => by have := ((hR.ls.lo z hz).lt g hg).2; have := (hou.lt g e).1; omega
          have hBW := hR.hB
          have hR := hR.to hx3'
          have hLp := hLp.to hx3'
          have hone : u.oneCell' = true := hou.sli.one u (List.mem_singleton.2 rfl)
          refine rn ?_
          refine sAl tb (fun Wa hba hsa hxa => ?_)
          refine sSt tb (fun Wb hbb hwb => ?_) (vs := linC u L.val L.time) (hv := rfl) (h1 := linC_one hone)
          have hxb : Ext W3' Wb := Below.wr hxa hwb (Nat.le_refl _)
          have hR := hR.to hxb
          have hLp := hLp.to hxb
          have hou : Lab.LO Wb W0.heap.size u out := (hou.to hxb).mono hBW
          have h1 : Bx Wb w.heap.size [.int .i64 lim] := b1.same (hR.kq.same _ b1.lt ⟨by omega, by omega, by omega⟩)
          clear hba hxa hwb hsa
          have hb4' := hR.b4
          have hlo := hR.ls.ow
          have hll4 : (l.map smC).length = l.length := by simp
          have hlvs := hlo.sli
          unfold linC at hbb
          refine rn ?_
          refine G.condD rfl (fun hc => ?_) (fun hc => ?_)
          · rw [if_pos (by omega)] at he
            simp only at he
            have hkq := hR.kq
            have hb4 := hR.b4
            have c3 : Bx Wb W2.heap.size [.slice none 0 0] := b3.same (hkq.same _ b3.lt ⟨by omega, by omega, by omega⟩)
            have c4 : Bx Wb W3.heap.size [.int .i64 0] := b4.same (hkq.same _ b4.lt ⟨by omega, by omega, by omega⟩)
            have c5 : Bx Wb W4.heap.size [.int .i64 0] := b5.same (hkq.same _ b5.lt ⟨by omega, by omega, by omega⟩)
            have hkw : Kq (fun g => g < w.heap.size) w Wb := hx00.kq.trans (hkq.mono fun g _ hp => ⟨by omega, by omega, by omega⟩)
            refine rn ?_
            refine sSt tb (fun Wd hbd hwd => ?_) (hb := hb4)
            have hLp := hLp.wr hb4 hwd
            have c3 := c3.wr hwd (by omega)
            have c4 := c4.wr hwd (by omega)
            have c5 := c5.wr hwd (by omega)
            refine sSt tb (fun We hbe hwe => ?_) (hb := c3)
            have hLp := hLp.wr c3 hwe
            have hbd := hbd.wr hwe (by omega)
            have c4 := c4.wr hwe (by omega)
            have c5 := c5.wr hwe (by omega)
            refine sSt tb (fun Wf hbf hwf => ?_) (hb := c4)
            have hLp := hLp.wr c4 hwf
            have hbd := hbd.wr hwf (by omega)
            have hbe := hbe.wr hwf (by omega)
            have c5 := c5.wr hwf (by omega)
            refine sSt tb (fun Wg hbg hwg => ?_) (hb := c5)
            have hLp := hLp.wr c5 hwg
            have hbd := hbd.wr hwg (by omega)
            have hbe := hbe.wr hwg (by omega)
            have hbf := hbf.wr hwg (by omega)
            have hkw := (((hkw.trans (hwd.kq (by omega))).trans (hwe.kq (by omega))).trans (hwf.kq (by omega))).trans (hwg.kq (by omega))
            refine rn ?_
            refine G.ret fun t _ => ⟨hLp, rfl, 1 + i, 11, hkw, hbd, hbe, hbf, hbg, ?_⟩
            rw [show 1 + i = i + 1 by omega]
            exact he
          · rw [if_neg (by omega)] at he
            simp only at he
            refine rn ?_
            refine sBs' tb [linC u L.val L.time] (fun us W5' ho5 hs5 hx5' => ?_) (hkl := by simp [linC]) (hfill := by kernel_rfl)
            have hR := hR.to hx5'
            have hLp := hLp.to hx5'
            refine sApp2 tb hR.ls.ow ho5.sli (fun lv' W6' hlv' hg6 ho2 => ?_) (h1 := by
              intro z hz c hc
              obtain rfl := List.mem_singleton.1 hz
              exact linC_one hone c hc) (hB := hR.hB)
            have hLp := hR.ls.ow.lp hLp hg6
            have hb46 := hR.b4.grew hg6 (hR.ls.ow.ne hR.h4)
            refine sSt tb (fun W7' hb7' hw7' => ?_) (vs := [lv']) (hv := hlv'.cells) (h1 := hlv'.sli.one) (hb := hb46)
            have hLp := hLp.wr hb46 hw7'
            have hR := hR.push (x := ⟨L, out, u⟩) (hou.to hx5') hoW hoD hg6 (by rw [List.map_append]; exact hlv') ho2 hb7' hw7' rfl
            refine rn ?_
            exact G.nil fun t _ => ⟨hLp, lv', fv, l ++ [⟨L, out, u⟩], fams, hR, by omega, by simp only [List.length_append, List.length_cons, List.length_nil]; omega, by omega, by rw [List.map_append]; exact he⟩
        · rw [lineR_no hno] at he
          simp only at he
          have hR := hR.to hx3'
          have hLp := hLp.to hx3'
          refine rn ?_
          refine sAl tb (fun Wa hba hsa hxa => ?_)
          refine sSt tb (fun Wb hbb hwb => ?_) (vs := linZ) (hv := rfl) (h1 := linZ_one)
          have hxb : Ext W3' Wb := Below.wr hxa hwb (Nat.le_refl _)
          have hR := hR.to hxb
          have hLp := hLp.to hxb
          clear hba hxa hwb hsa
          refine rn ?_
          refine G.cond rfl (fun hc => ?_) (fun hc => ?_)
          · skip
            have hkq := hR.kq
            have hb4 := hR.b4
            have c3 : Bx Wb W2.heap.size [.slice none 0 0] := b3.same (hkq.same _ b3.lt ⟨by omega, by omega, by omega⟩)
            have c4 : Bx Wb W3.heap.size [.int .i64 0] := b4.same (hkq.same _ b4.lt ⟨by omega, by omega, by omega⟩)
            have c5 : Bx Wb W4.heap.size [.int .i64 0] := b5.same (hkq.same _ b5.lt ⟨by omega, by omega, by omega⟩)
            have hkw : Kq (fun g => g < w.heap.size) w Wb := hx00.kq.trans (hkq.mono fun g _ hp => ⟨by omega, by omega, by omega⟩)
            refine rn ?_
            refine sSt tb (fun Wd hbd hwd => ?_) (hb := hb4)
            have hLp := hLp.wr hb4 hwd
            have c3 := c3.wr hwd (by omega)
            have c4 := c4.wr hwd (by omega)
            have c5 := c5.wr hwd (by omega)
            refine sSt tb (fun We hbe hwe => ?_) (hb := c3)
            have hLp := hLp.wr c3 hwe
            have hbd := hbd.wr hwe (by omega)
            have c4 := c4.wr hwe (by omega)
            have c5 := c5.wr hwe (by omega)
            refine sSt tb (fun Wf hbf hwf => ?_) (hb := c4)
            have hLp := hLp.wr c4 hwf
            have hbd := hbd.wr hwf (by omega)
            have hbe := hbe.wr hwf (by omega)
            have c5 := c5.wr hwf (by omega)
            refine sSt tb (fun Wg hbg hwg => ?_) (hb := c5)
            have hLp := hLp.wr c5 hwg
            have hbd := hbd.wr hwg (by omega)
            have hbe := hbe.wr hwg (by omega)
            have hbf := hbf.wr hwg (by omega)
            have hkw := (((hkw.trans (hwd.kq (by omega))).trans (hwe.kq (by omega))).trans (hwf.kq (by omega))).trans (hwg.kq (by omega))
            refine rn ?_
            refine G.ret fun t _ => ⟨hLp, rfl, 1 + i, 8, hkw, hbd, hbe, hbf, hbg, ?_⟩
            rw [show 1 + i = i + 1 by omega]
            exact he
          · exfalso
            apply he1
            simpa using hc
  · rintro r W hr ⟨lv, fv, l, fams, hR, -, -, -, he⟩ hD
    rw [lnC_len, List.drop_length] at he
    have he : rdR lim 1 ⟨[], []⟩ (linesP s) = .ok ⟨l.map smP, fams⟩ := he
    have hR := hR.to (Ext.drew W)
    have hD := hD.to (Ext.drew W)
    have hkq := hR.kq
    have d4 := hR.b4
    have d8 : Bx W.drew W7.heap.size [ptr W6.heap.size] := b8.same (hkq.same _ b8.lt ⟨by omega, by omega, by omega⟩)
    have df := hR.fs.bx
    have c3 : Bx W.drew W2.heap.size [.slice none 0 0] := b3.same (hkq.same _ b3.lt ⟨by omega, by omega, by omega⟩)
    have c4 : Bx W.drew W3.heap.size [.int .i64 0] := b4.same (hkq.same _ b4.lt ⟨by omega, by omega, by omega⟩)
    have c5 : Bx W.drew W4.heap.size [.int .i64 0] := b5.same (hkq.same _ b5.lt ⟨by omega, by omega, by omega⟩)
    have hkw : Kq (fun g => g < w.heap.size) w W.drew := hx00.kq.trans (hkq.mono fun g _ hp => ⟨by omega, by omega, by omega⟩)
    have hlo := hR.ls
    have hfo := hR.fs.ow
    have hlcl := hlo.ow.cells
    have hfcl := hfo.cells
    have hl1 : lv.oneCell' = true := hlo.ow.sli.one lv (List.mem_singleton.2 rfl)
    have hf1 : fv.oneCell' = true := hfo.sli.one fv (List.mem_singleton.2 rfl)
    refine rn ?_
    refine G.regionM [(0, true), (1, true), (2, true), (3, true), (4, true), (5, false), (6, false), (7, false), (8, false)] (fun w' => Bx w' W1.heap.size [lv] ∧ Bx w' W7.heap.size [ptr W6.heap.size] ∧ Bx w' W6.heap.size [fv, .map (some W5.heap.size)]) (by kernel_rfl) (by kernel_rfl) rfl mixed (⟨d4, d8, df⟩) rfl ?_
    refine dLd tb (u := lv) ?_ (hc := fun w' hS _ => Bx.c0 hS.1 rfl)
    refine rd ?_
    refine dLd tb (u := ptr W6.heap.size) ?_ (hc := fun w' hS _ => Bx.c0 hS.2.1 rfl)
    refine rd ?_
    refine dLd tb (u := fv) ?_ (hc := fun w' hS _ => Bx.c0 hS.2.2 rfl)
    refine rd ?_
    refine GM.eff (Step.store0 (vs := [lv]) tb rfl (Op1.of rfl (by first | exact fun _ => rfl | exact fun h => h | exact fun h => bL h | exact fun h => bL (bL h) | exact fun h => bL (bL (bL h)))) (Op1.of rfl (by first | exact fun _ => rfl | exact fun h => h | exact fun h => bL h | exact fun h => bL (bL h) | exact fun h => bL (bL (bL h)))) rfl hlcl rfl (by intro z hz; obtain rfl := List.mem_singleton.1 hz; exact hl1) d4 rfl ?_)
    intro Wa hba hwa
    have hD := hD.wr d4 hwa
    have d8 := d8.wr hwa (by omega)
    have df := df.wr hwa (by omega)
    have c3 := c3.wr hwa (by omega)
    have c4 := c4.wr hwa (by omega)
    have c5 := c5.wr hwa (by omega)
    refine ⟨⟨hba, d8, df⟩, ?_⟩
    refine GM.eff (Step.store0 (vs := [fv]) tb rfl (Op1.of rfl (by first | exact fun _ => rfl | exact fun h => h | exact fun h => bL h | exact fun h => bL (bL h) | exact fun h => bL (bL (bL h)))) (Op1.of rfl (by first | exact fun _ => rfl | exact fun h => h | exact fun h => bL h | exact fun h => bL (bL h) | exact fun h => bL (bL (bL h)))) rfl hfcl rfl (by intro z hz; obtain rfl := List.mem_singleton.1 hz; exact hf1) c3 rfl ?_)
    intro Wb hbb hwb
    have hD := hD.wr c3 hwb
    have hba := hba.wr hwb (by omega)
    have d8 := d8.wr hwb (by omega)
    have df := df.wr hwb (by omega)
    have c4 := c4.wr hwb (by omega)
    have c5 := c5.wr hwb (by omega)
    refine ⟨⟨hba, d8, df⟩, ?_⟩
    refine GM.eff (Step.store0 tb rfl (Op1.of rfl (by first | exact fun _ => rfl | exact fun h => h | exact fun h => bL h | exact fun h => bL (bL h) | exact fun h => bL (bL (bL h)))) (Op1.of rfl (by first | exact fun _ => rfl | exact fun h => h | exact fun h => bL h | exact fun h => bL (bL h) | exact fun h => bL (bL (bL h)))) rfl rfl rfl (by simp [Value.oneCell']) c4 rfl ?_)
    intro Wc hbc hwc
    have hD := hD.wr c4 hwc
    have hba := hba.wr hwc (by omega)
    have hbb := hbb.wr hwc (by omega)
    have d8 := d8.wr hwc (by omega)
    have df := df.wr hwc (by omega)
    have c5 := c5.wr hwc (by omega)
    refine ⟨⟨hba, d8, df⟩, ?_⟩
    refine GM.eff (Step.store0 tb rfl (Op1.of rfl (by first | exact fun _ => rfl | exact fun h => h | exact fun h => bL h | exact fun h => bL (bL h) | exact fun h => bL (bL (bL h)))) (Op1.of rfl (by first | exact fun _ => rfl | exact fun h => h | exact fun h => bL h | exact fun h => bL (bL h) | exact fun h => bL (bL (bL h)))) rfl rfl rfl (by simp [Value.oneCell']) c5 rfl ?_)
    intro Wd hbd hwd
    have hD := hD.wr c5 hwd
    have hba := hba.wr hwd (by omega)
    have hbb := hbb.wr hwd (by omega)
    have hbc := hbc.wr hwd (by omega)
    have d8 := d8.wr hwd (by omega)
    have df := df.wr hwd (by omega)
    refine ⟨⟨hba, d8, df⟩, ?_⟩
    refine GM.nil ?_
    have hkw := (((hkw.trans (hwa.kq (by omega))).trans (hwb.kq (by omega))).trans (hwc.kq (by omega))).trans (hwd.kq (by omega))
    have hkd : Kq (fun g => W0.heap.size ≤ g) W.drew Wd := (((hwa.kq (by omega)).trans (hwb.kq (by omega))).trans (hwc.kq (by omega))).trans (hwd.kq (by omega))
    have hlo : LinS Wd W0.heap.size lv l := hlo.same (fun g hg => hkd.same g (hlo.ow.lt g hg).2 (hlo.ow.lt g hg).1) (fun x hx g hg => hkd.same g ((hlo.lo x hx).lt g hg).2 ((hlo.lo x hx).lt g hg).1)
    have hfo : Owns Wd W0.heap.size fv 74 3 (fams.map famC) := hfo.same fun g hg e => hkd.same g hg (hfo.lt g e).1
    have hlo := lins_out hlo hD
    have hfo := owns_out hfo hD
    have hxo : Ext w (outW r Wd) := (ext_kq hkw).wr (outW_wr r _) (by omega)
    refine G.retM rfl rfl hD fun t ht => ⟨_, resC4 ht rfl rfl rfl rfl rfl (tb.ok _ _ rfl) rfl (tb.ok _ _ rfl) rfl (tb.ok _ _ rfl) rfl (tb.ok _ _ rfl) rfl (Bx.c0 (hba.out hD) rfl) (Bx.c0 (hbb.out hD) rfl) (Bx.c0 (hbc.out hD) rfl) (Bx.c0 (hbd.out hD) rfl), hxo, .inl ⟨lv, fv, l, fams, he, rfl, ?_, hfo.mono (by omega)⟩⟩
    exact ⟨hlo.ow.mono (by omega), fun x hx => (hlo.lo x hx).mono (by omega), hlo.ne, hlo.dj⟩
  · rintro r c W hr ⟨rfl, n, e, hkw, h2, h3, h4, h5, he⟩ hD
    have hxo : Ext w (outW r W) := (ext_kq hkw).wr (outW_wr r _) (by omega)
    exact G.retM rfl rfl hD fun t ht => ⟨_, resC4 ht rfl rfl rfl rfl rfl (tb.ok _ _ rfl) rfl (tb.ok _ _ rfl) rfl (tb.ok _ _ rfl) rfl (tb.ok _ _ rfl) rfl (Bx.c0 (h2.out hD) rfl) (Bx.c0 (h3.out hD) rfl) (Bx.c0 (h4.out hD) rfl) (Bx.c0 (h5.out hD) rfl), hxo, .inr ⟨n, e, he, rfl⟩⟩
end Go.Proofs.YtcngoccnfmhhnaaGreatDoor
end
section
open Go Go.Vg Go.RowKit Go.Proofs Go.Proofs.YtcngoccnfmhhnaaGreatDoor
namespace Go.Proofs.YtcngoccnfmhhnaaGreatDoor.Lab

theorem getX {ls : List Lab} {k : Nat} (h : k < ls.length) : ∃ x, (ls.map labC)[k]? = some (labC x) ∧ ls.drop k = x :: ls.drop (k + 1) :=
  ⟨ls[k], by simp [h], List.drop_eq_getElem_cons h⟩

end Go.Proofs.YtcngoccnfmhhnaaGreatDoor.Lab
end
section
open Go Go.Vg Go.RowKit Go.Proofs Go.Proofs.YtcngoccnfmhhnaaGreatDoor
namespace Go.Proofs.YtcngoccnfmhhnaaGreatDoor.Lab

theorem strT : Tryz.prog.underlying 9 = some .string := tb.ok _ _ rfl
theorem strA (w : World) : (isAgg 9).run Tryz.prog w = .ok false w := run_isAgg strT w
theorem eqLab (x y : Lab) (fs : Array Field) (h : tb.ty 76 = some (.struct fs)) (w : World) : (Op.eqFields 9999 ⟨labC x⟩ ⟨labC y⟩ fs.toList).run Tryz.prog w = .ok (decide (x = y)) w := by
  cases h
  have e1 : ∀ w, (Op.equalIn 9999 9 (S x.1) (S y.1)).run Tryz.prog w = .ok (decide (x.1 = y.1)) w := fun w => by
    have := run_equalIn_string (P := Tryz.prog) w 9998 9 ⟨⟨x.1⟩⟩ ⟨⟨y.1⟩⟩ strT
    rw [toL, toL, beqL] at this; exact this
  have e2 : ∀ w, (Op.equalIn 9999 9 (S x.2) (S y.2)).run Tryz.prog w = .ok (decide (x.2 = y.2)) w := fun w => by
    have := run_equalIn_string (P := Tryz.prog) w 9998 9 ⟨⟨x.2⟩⟩ ⟨⟨y.2⟩⟩ strT
    rw [toL, toL, beqL] at this; exact this
  have e : decide (x = y) = (decide (x.1 = y.1) && decide (x.2 = y.2)) := by
    obtain ⟨a, b⟩ := x
    obtain ⟨a', b'⟩ := y
    simp [Prod.mk.injEq, Bool.decide_and]
  rw [e]
  simp only [labC, Op.eqFields, part, strA, Sem.run_bind, Result.andThen_ok]
  have h1 : decide (x.1 = y.1) = true ∨ decide (x.1 = y.1) = false := by cases decide (x.1 = y.1) <;> simp
  have h2 : decide (x.2 = y.2) = true ∨ decide (x.2 = y.2) = false := by cases decide (x.2 = y.2) <;> simp
  generalize decide (x.1 = y.1) = p1 at e1 h1 ⊢
  generalize decide (x.2 = y.2) = p2 at e2 h2 ⊢
  rcases h1 with rfl | rfl <;> rcases h2 with rfl | rfl <;> simp [strA, e1, e2]

def eqN (a b : List Lab) : Bool := decide (a = b)
theorem keepLabels_ok (v u : Value) (a b : List Lab) (w : World) (hv : Labs w v a) (hu : Labs w u b) :
    Ret Tryz.prog 36 ⟨[v, u]⟩ w fun r w' => r = .bool (eqN a b) ∧ Ext w w' := by
  have hbd := Labs.bound hv
  have hbd2 := Labs.bound hu
  refine ret_of_G Tryz.func36 rfl Tryz.ntmps36 rfl ?_
  simp only [argEnv]
  refine rn ?_
  rw [List.length_map, List.length_map]
  refine rn ?_
  first | refine G.condD rfl (fun hc => ?_) (fun hc => ?_) | refine G.condN rfl (fun hc => ?_) (fun hc => ?_) | refine G.cond rfl (fun hc => ?_) (fun hc => ?_)
  · have hne : eqN a b = false := by
      refine decide_eq_false fun e => hc ?_
      rw [e]
    refine rn ?_
    refine G.ret1 rfl rfl rfl rfl ?_
    exact ⟨by rw [hne], Ext.refl _⟩
  · refine rn ?_
    refine (G.loop (fun k : Nat => [(0, none, v), (1, none, u), (5, none, .int .i64 k)]) (fun k w' => Ext w w' ∧ k ≤ a.length ∧ a.take k = b.take k) (fun k => a.length - k) 0 (by repeat (first | exact Sub.nil _ | refine Sub.cons rfl ?_)) ⟨Ext.refl _, by omega, by simp⟩ ?_)
    rintro k w1 ⟨hx1, hk, hto⟩
    have hv1 := hv.to hx1
    have hu1 := hu.to hx1
    refine rn ?_
    rw [List.length_map]
    have hc0 := hc
    refine rn ?_
    first | refine G.condD rfl (fun hc => ?_) (fun hc => ?_) | refine G.condN rfl (fun hc => ?_) (fun hc => ?_) | refine G.cond rfl (fun hc => ?_) (fun hc => ?_)
    · have hlt : k < a.length := by omega
      have hlt2 : k < b.length := by omega
      obtain ⟨x, hgx, hdx⟩ := getX hlt
      obtain ⟨y, hgy, hdy⟩ := getX hlt2
      refine rn ?_
      refine G.regionM [(0, true), (1, true), (2, true), (3, true), (4, true), (5, true), (6, true), (7, true), (8, true)] (Ext w1) (by kernel_rfl) (by kernel_rfl) rfl mixed (Ext.drew w1) rfl ?_
      try (refine mm tb ?_); repeat ((first | refine dFa tb ?_ | refine dLd tb ?_ | refine dLa tb ?_ | refine dLen tb ?_ | refine dFd tb ?_ | refine dIa tb k ?_); try (refine mm tb ?_))
      refine GM.read (fun w' hS => Step.eqSt tb rfl (Op1.of rfl (by first | exact fun _ => rfl | exact fun h => h | exact fun h => bL h | exact fun h => bL (bL h) | exact fun h => bL (bL (bL h)))) (Op1.of rfl (by first | exact fun _ => rfl | exact fun h => h | exact fun h => bL h | exact fun h => bL (bL h) | exact fun h => bL (bL (bL h)))) rfl (by kernel_rfl) (by kernel_rfl) (eqLab x y _ rfl) rfl (.inr rfl) ⟨rfl, rfl⟩) rfl rfl ?_
      refine GM.nil ?_
      have hx2 := hx1.drew'
      generalize w1.drew = w2 at hx2 ⊢
      refine rn ?_
      first | refine G.condD rfl (fun hc => ?_) (fun hc => ?_) | refine G.condN rfl (fun hc => ?_) (fun hc => ?_) | refine G.cond rfl (fun hc => ?_) (fun hc => ?_)
      · have hne : eqN a b = false := by
          refine decide_eq_false fun e => hc ?_
          subst e
          rw [hdx] at hdy
          exact (List.cons.inj hdy).1
        refine rn ?_
        refine G.ret1 rfl rfl rfl rfl ?_
        exact ⟨by rw [hne], hx2⟩
      · subst hc
        refine rn ?_
        refine sAd tb ?_
        refine rn ?_
        refine G.lp (k + 1) (by repeat (first | exact Sub.nil _ | refine Sub.cons rfl ?_)) ⟨hx2, by omega, ?_⟩ (by omega)
        rw [List.take_succ_eq_append_getElem hlt, List.take_succ_eq_append_getElem hlt2, hto]
        have h1 : a[k] = x := by rw [List.drop_eq_getElem_cons hlt] at hdx; exact (List.cons.inj hdx).1
        have h2 : b[k] = x := by rw [List.drop_eq_getElem_cons hlt2] at hdy; exact (List.cons.inj hdy).1
        rw [h1, h2]
    · have hke : k = a.length := by omega
      have hkb : k = b.length := by omega
      refine rn ?_
      refine G.ret1 rfl rfl rfl rfl ?_
      refine ⟨?_, hx1⟩
      rw [List.take_of_length_le (by omega), List.take_of_length_le (by omega)] at hto
      rw [hto]; simp [eqN]
end Go.Proofs.YtcngoccnfmhhnaaGreatDoor.Lab
end
section
open Go Go.Vg Go.RowKit Go.Proofs Go.Proofs.YtcngoccnfmhhnaaGreatDoor
namespace Go.Proofs.YtcngoccnfmhhnaaGreatDoor
open Go.Ex

theorem keepBits_ok (a : Nat) (w : World) : Ret Tryz.prog 37 ⟨[Fl a, Fl a]⟩ w fun r w' => r = .bool true ∧ Ext w w' := by
  refine ret_of_G Tryz.func37 rfl Tryz.ntmps37 rfl ?_
  simp only [argEnv]
  refine rn ?_
  refine GL.cons (Step.ext rfl rfl (by repeat (first | exact OpL.nil | refine OpL.cons (Op1.of rfl (by first | exact fun _ => rfl | exact fun h => h | exact fun h => bL h | exact fun h => bL (bL h) | exact fun h => bL (bL (bL h)))) ?_)) (run_fbits Tryz.func73 (by kernel_rfl) (by kernel_rfl) (by kernel_rfl) (by kernel_rfl) a _) rfl ?_)
  refine rn ?_
  refine GL.cons (Step.ext rfl rfl (by repeat (first | exact OpL.nil | refine OpL.cons (Op1.of rfl (by first | exact fun _ => rfl | exact fun h => h | exact fun h => bL h | exact fun h => bL (bL h) | exact fun h => bL (bL (bL h)))) ?_)) (run_fbits Tryz.func73 (by kernel_rfl) (by kernel_rfl) (by kernel_rfl) (by kernel_rfl) a _) rfl ?_)
  refine rn ?_
  refine G.ret1 rfl rfl rfl rfl ?_
  exact ⟨by simp, Ext.refl _⟩
theorem keepLines_ok (v u : Value) (a b : List Sm) (w : World) (hv : Sli w v 4 (a.map smC)) (hu : Sli w u 4 (b.map smC)) (ha : ∀ x ∈ a, Lab.Labs w x.v x.out) (hb : ∀ x ∈ b, Lab.Labs w x.v x.out) (he : a.map smP = b.map smP) :
    Ret Tryz.prog 16 ⟨[v, u]⟩ w fun r w' => r = .bool true ∧ Ext w w' := by
  have hl : a.length = b.length := by have := congrArg List.length he; simpa using this
  have hla : (a.map smC).length = a.length := by simp
  have hlb : (b.map smC).length = b.length := by simp
  have hbd := hv.bound
  refine ret_of_G Tryz.func16 rfl Tryz.ntmps16 rfl ?_
  simp only [argEnv]
  refine rn ?_
  rw [hla, hlb, hl]
  first | refine G.condD rfl (fun hc => ?_) (fun hc => ?_) | refine G.condN rfl (fun hc => ?_) (fun hc => ?_) | refine G.cond rfl (fun hc => ?_) (fun hc => ?_)
  · exact absurd rfl hc
  refine rn ?_
  refine (G.loop (fun k : Nat => [(0, none, v), (1, none, u), (5, none, .int .i64 k)]) (fun k w' => Ext w w' ∧ k ≤ a.length) (fun k => a.length - k) 0 (by repeat (first | exact Sub.nil _ | refine Sub.cons rfl ?_)) ⟨Ext.refl _, by omega⟩ ?_)
  rintro k W ⟨hx, hk⟩
  have hv1 := hv.to hx
  have hu1 := hu.to hx
  refine rn ?_
  first | refine G.condD rfl (fun hc => ?_) (fun hc => ?_) | refine G.condN rfl (fun hc => ?_) (fun hc => ?_) | refine G.cond rfl (fun hc => ?_) (fun hc => ?_)
  · have hlt : k < a.length := by omega
    obtain ⟨x, hx1⟩ : ∃ x, a[k]? = some x := ⟨_, List.getElem?_eq_getElem hlt⟩
    obtain ⟨y, hy1⟩ : ∃ y, b[k]? = some y := ⟨_, List.getElem?_eq_getElem (by omega)⟩
    have hxy : smP x = smP y := by
      have := congrArg (fun l => l[k]?) he
      simpa [hx1, hy1] using this
    have hL : x.L = y.L := congrArg Prod.fst hxy
    have hO : x.out = y.out := congrArg Prod.snd hxy
    have hgx : (a.map smC)[k]? = some (smC x) := by simp [hx1]
    have hgy : (b.map smC)[k]? = some (smC y) := by simp [hy1]
    have hxl := (ha x (List.mem_of_getElem? hx1)).to hx
    have hyl := (hb y (List.mem_of_getElem? hy1)).to hx
    unfold smC linC at hgx hgy
    refine rn ?_
    refine G.regionM [(0, true), (1, true), (2, true), (3, true), (4, true), (5, true), (6, true), (7, true), (8, true), (9, true), (10, false), (11, true), (12, true), (13, true), (14, true), (15, true), (16, true), (17, true), (18, true), (19, true), (20, true), (21, true), (22, true), (23, false), (24, true), (25, true), (26, true), (27, true), (28, true), (29, true), (30, true), (31, true), (32, true), (33, true), (34, true), (35, true), (36, true), (37, true), (38, true), (39, true), (40, true), (41, true), (42, true), (43, true), (44, true), (45, true), (46, true), (47, true), (48, true), (49, true), (50, true), (51, true)] (Ext W) (by kernel_rfl) (by kernel_rfl) rfl mixed (Ext.drew W) rfl ?_
    try (refine mm tb ?_); repeat ((first | refine dFa tb ?_ | refine dLd tb ?_ | refine dLa tb ?_ | refine dLen tb ?_ | refine dFd tb ?_ | refine dIa tb k ?_); try (refine mm tb ?_))
    have heq : Lab.eqN x.out y.out = true := decide_eq_true hO
    refine GM.eff (Step.callF rfl rfl rfl c36 rfl (Lab.keepLabels_ok x.v y.v x.out y.out W.drew (hxl.to (Ext.drew W)) (hyl.to (Ext.drew W))) ?_)
    rintro _ W2 ⟨rfl, hx2⟩
    have hx2 := (Ext.drew W).trans hx2
    refine ⟨hx2, ?_⟩
    rw [heq]
    try (refine mm tb ?_); repeat ((first | refine dFa tb ?_ | refine dLd tb ?_ | refine dLa tb ?_ | refine dLen tb ?_ | refine dFd tb ?_ | refine dIa tb k ?_); try (refine mm tb ?_))
    rw [← hL]
    have hb := keepBits_ok x.L.val W2
    refine GM.eff (Step.on rfl rfl (Step.callO rfl rfl (by repeat (first | exact OpL.nil | refine OpL.cons (Op1.of rfl (by first | exact fun _ => rfl | exact fun h => h | exact fun h => bL h | exact fun h => bL (bL h) | exact fun h => bL (bL (bL h)))) ?_)) c37 rfl hb ?_))
    rintro _ W3 ⟨rfl, hx3⟩
    have hx3 := hx2.trans hx3
    refine ⟨hx3, ?_⟩
    try (refine mm tb ?_); repeat ((first | refine dFa tb ?_ | refine dLd tb ?_ | refine dLa tb ?_ | refine dLen tb ?_ | refine dFd tb ?_ | refine dIa tb k ?_); try (refine mm tb ?_))
    refine GM.nil ?_
    have hx3 := hx.trans hx3
    refine G.cond rfl (fun hc => ?_) (fun hc => ?_)
    · exfalso
      rw [hL] at hc
      simp at hc
    · refine rn ?_
      refine sAd tb ?_
      refine rn ?_
      exact G.lp (x := k) (k + 1) (by repeat (first | exact Sub.nil _ | refine Sub.cons rfl ?_)) ⟨hx3, by omega⟩ (by omega)
  · refine rn ?_
    refine G.ret1 rfl rfl rfl rfl ?_
    exact ⟨rfl, hx⟩
end Go.Proofs.YtcngoccnfmhhnaaGreatDoor
end
