/- A set as the program makes it is the set as the reference makes it; plain. -/
import Derived.Test.YtfffblopkaandaaDoorLUV
import Derived.Test.YtfffblopkaandaaDoorGL2
open Go Go.Vg Go.RowKit Go.Proofs Go.Proofs.YtfffblopkaandaaDoor
namespace Go.Proofs.YtfffblopkaandaaDoor
set_option linter.unusedSimpArgs false

theorem okB_fair (x : Lab) : okB x = fairB x := by
  unfold okB fairB rightV
  rw [validU_D]
  cases namedB false x.1 <;> cases Lib.validD x.2 <;> by_cases h : (x.2.length : Int) ≤ 1024 <;> simp [h] <;> omega

theorem putL_perm (l : List Lab) (x : Lab) : (putL l x).Perm (l ++ [x]) := by
  unfold putL
  have h := List.takeWhile_append_dropWhile (p := fun y => Op.bytesLess y.1 x.1) (l := l)
  have h1 : (x :: l.dropWhile fun y => Op.bytesLess y.1 x.1).Perm ((l.dropWhile fun y => Op.bytesLess y.1 x.1) ++ [x]) := (List.perm_append_singleton x _).symm
  refine (List.Perm.append_left _ h1).trans ?_
  rw [← List.append_assoc, h]
theorem foldN_perm (ls : List Lab) : (foldN ls).1.Perm (keptL ls) := by
  suffices h : ∀ n, ∀ ls : List Lab, ls.length = n → (foldN ls).1.Perm (keptL ls) from h _ ls rfl
  intro n
  induction n with
  | zero => intro ls h; rw [List.eq_nil_of_length_eq_zero h]; exact List.Perm.refl _
  | succ n ih =>
    intro ls h
    have hne : ls ≠ [] := by intro e; subst e; cases h
    obtain ⟨r, x, rfl⟩ : ∃ r x, ls = r ++ [x] := ⟨ls.dropLast, ls.getLast hne, (List.dropLast_concat_getLast hne).symm⟩
    have hr := ih r (by simpa using h)
    rw [foldN_snoc, keptL_snoc]
    unfold stepN
    by_cases hx : x.2 = []
    · rw [if_pos hx, if_pos hx]; exact hr
    · rw [if_neg hx, if_neg hx]
      exact (putL_perm _ x).trans (List.Perm.append_right _ hr)
theorem dw_sorted {l : List Lab} {x : Lab} (h : sortedL l) : ∀ y ∈ l.dropWhile (fun y => Op.bytesLess y.1 x.1), Op.bytesLess y.1 x.1 = false := by
  induction l with
  | nil => simp
  | cons a r ih =>
    intro y hy
    unfold sortedL at h
    rw [List.pairwise_cons] at h
    cases ha : Op.bytesLess a.1 x.1 with
    | true => simp only [List.dropWhile_cons, ha, if_true] at hy; exact ih h.2 y hy
    | false =>
      simp only [List.dropWhile_cons, ha, Bool.false_eq_true, if_false] at hy
      rcases List.mem_cons.1 hy with rfl | hy
      · exact ha
      · have h1 := h.1 y hy
        rw [Bool.eq_false_iff]
        intro h2
        rcases bl_not h1 with e | e
        · rw [e, h2] at ha; cases ha
        · have := bl_trans e h2; rw [this] at ha; cases ha
theorem tw_all {l : List Lab} {x : Lab} : ∀ y ∈ l.takeWhile (fun y => Op.bytesLess y.1 x.1), Op.bytesLess y.1 x.1 = true := by
  induction l with
  | nil => simp
  | cons a r ih =>
    intro y hy
    cases ha : Op.bytesLess a.1 x.1 with
    | true =>
      simp only [List.takeWhile_cons, ha, if_true] at hy
      rcases List.mem_cons.1 hy with rfl | hy
      · exact ha
      · exact ih y hy
    | false => simp only [List.takeWhile_cons, ha, Bool.false_eq_true, if_false] at hy; cases hy
theorem putL_sorted {l : List Lab} {x : Lab} (h : sortedL l) : sortedL (putL l x) := by
  have hd := dw_sorted (x := x) h
  have ht := tw_all (l := l) (x := x)
  unfold sortedL putL at *
  have hs := List.takeWhile_append_dropWhile (p := fun y => Op.bytesLess y.1 x.1) (l := l)
  rw [← hs, List.pairwise_append] at h
  rw [List.pairwise_append]
  refine ⟨h.1, List.pairwise_cons.2 ⟨hd, h.2.1⟩, ?_⟩
  intro a ha b hb
  rcases List.mem_cons.1 hb with rfl | hb
  · exact bl_asymm (ht a ha)
  · exact h.2.2 a ha b hb
theorem foldN_sorted (ls : List Lab) : sortedL (foldN ls).1 := by
  suffices h : ∀ (l : List Lab) (s : List Lab × Bool), sortedL s.1 → sortedL (l.foldl stepN s).1 from h ls ([], false) List.Pairwise.nil
  intro l
  induction l with
  | nil => intro s h; exact h
  | cons a r ih =>
    intro s h
    refine ih _ ?_
    unfold stepN
    split
    · exact h
    · exact putL_sorted h
theorem hasL_mem (l : List Lab) (n : List UInt8) : hasL l n = true ↔ n ∈ l.map (·.1) := by
  simp only [hasL, List.any_eq_true, decide_eq_true_eq, List.mem_map]
theorem nodup_snoc {α : Type} {l : List α} {x : α} : (l ++ [x]).Nodup ↔ l.Nodup ∧ x ∉ l := by
  rw [List.nodup_append]
  constructor
  · rintro ⟨h1, _, h3⟩
    exact ⟨h1, fun hx => h3 x hx x (by simp) rfl⟩
  · rintro ⟨h1, h2⟩
    refine ⟨h1, by simp, ?_⟩
    intro a ha b hb
    simp only [List.mem_cons, List.not_mem_nil, or_false] at hb
    subst hb
    rintro rfl; exact h2 ha
theorem foldN_twice (ls : List Lab) : (foldN ls).2 = true ↔ ¬ ((keptL ls).map (·.1)).Nodup := by
  suffices h : ∀ n, ∀ ls : List Lab, ls.length = n → ((foldN ls).2 = true ↔ ¬ ((keptL ls).map (·.1)).Nodup) from h _ ls rfl
  intro n
  induction n with
  | zero => intro ls h; rw [List.eq_nil_of_length_eq_zero h]; simp [foldN, keptL]
  | succ n ih =>
    intro ls h
    have hne : ls ≠ [] := by intro e; subst e; cases h
    obtain ⟨r, x, rfl⟩ : ∃ r x, ls = r ++ [x] := ⟨ls.dropLast, ls.getLast hne, (List.dropLast_concat_getLast hne).symm⟩
    have hr := ih r (by simpa using h)
    rw [foldN_snoc, keptL_snoc]
    unfold stepN
    by_cases hx : x.2 = []
    · rw [if_pos hx, if_pos hx]; exact hr
    · rw [if_neg hx, if_neg hx]
      simp only [Bool.or_eq_true, hr, hasL_mem, List.map_append, List.map_cons, List.map_nil]
      rw [nodup_snoc]
      have hp : x.1 ∈ (foldN r).1.map (·.1) ↔ x.1 ∈ (keptL r).map (·.1) := ((foldN_perm r).map _).mem_iff
      rw [hp]
      constructor
      · rintro (h1 | h1) ⟨h2, h3⟩
        · exact h1 h2
        · exact h3 h1
      · intro h1
        by_cases h2 : ((keptL r).map (·.1)).Nodup
        · by_cases h3 : x.1 ∈ (keptL r).map (·.1)
          · exact .inr h3
          · exact absurd ⟨h2, h3⟩ h1
        · exact .inl h2
/-- the next one is there, and another name -/
theorem dup_iff {d : List Lab} (h : sortedL d) : (∃ i, dupAt d i) ↔ ¬ (d.map (·.1)).Nodup := by
  have at_ : ∀ i (hi : i < d.length), labAt d i = d[i] := fun i hi => by simp [labAt, List.getD, hi]
  constructor
  · rintro ⟨i, h1, h2, h3⟩ hn
    rw [at_ i h2, at_ (i - 1) (by omega)] at h3
    have := List.pairwise_iff_getElem.1 hn (i - 1) i (by simp; omega) (by simpa using h2) (by omega)
    simp only [List.getElem_map] at this
    exact this h3.symm
  · intro hn
    apply Classical.byContradiction
    intro hno
    refine hn ?_
    have adj : ∀ i (hi : i + 1 < d.length), Op.bytesLess d[i].1 d[i + 1].1 = true := by
      intro i hi
      have h1 := List.pairwise_iff_getElem.1 h i (i + 1) (by omega) hi (by omega)
      rcases bl_not h1 with e | e
      · exfalso
        refine hno ⟨i + 1, by omega, hi, ?_⟩
        rw [at_ (i + 1) hi, Nat.add_sub_cancel, at_ i (by omega)]; exact e.symm
      · exact e
    have lt : ∀ k i (hi : i + (k + 1) < d.length), Op.bytesLess d[i].1 d[i + (k + 1)].1 = true := by
      intro k
      induction k with
      | zero => intro i hi; exact adj i hi
      | succ k ih =>
        intro i hi
        exact bl_trans (ih i (by omega)) (adj (i + (k + 1)) hi)
    unfold List.Nodup
    rw [List.pairwise_iff_getElem]
    intro i j hi hj hij e
    simp only [List.length_map] at hi hj
    simp only [List.getElem_map] at e
    have := lt (j - i - 1) i (by omega)
    have ej : i + (j - i - 1 + 1) = j := by omega
    simp only [ej] at this
    rw [e, bl_irrefl] at this; cases this
theorem sorted_unique : ∀ {a b : List Lab}, sortedL a → sortedL b → (a.map (·.1)).Nodup → a.Perm b → a = b
  | [], b, _, _, _, hp => by rw [List.nil_perm.1 hp]
  | x :: a, [], _, _, _, hp => by simpa using hp.length_eq
  | x :: a, y :: b, ha, hb, hn, hp => by
    unfold sortedL at ha hb
    rw [List.pairwise_cons] at ha hb
    rw [List.map_cons, List.nodup_cons] at hn
    have hx : x ∈ y :: b := hp.subset (by simp)
    have hy : y ∈ x :: a := hp.symm.subset (by simp)
    have e : x = y := by
      rcases List.mem_cons.1 hx with e | hxb
      · exact e
      · rcases List.mem_cons.1 hy with e | hya
        · exact e.symm
        · have h1 := ha.1 y hya
          have h2 := hb.1 x hxb
          have : x.1 = y.1 := by
            rcases bl_not h1 with e | e
            · exact e
            · rw [e] at h2; cases h2
          exact absurd (List.mem_map.2 ⟨y, hya, this.symm⟩) hn.1
    subst e
    rw [sorted_unique ha.2 hb.2 hn.2 (List.Perm.cons_inv hp)]
theorem newS_R {ls : List Lab} {e : Int} {out : List Lab} (h : newS ls e out) : newR ls = (e, out) := by
  unfold newS at h
  unfold newR
  have hall : ls.all okB = ls.all fairB := by congr 1; funext x; exact okB_fair x
  rw [hall] at h
  by_cases ha : ls.all fairB = true
  · rw [if_pos ha] at h ⊢
    obtain ⟨d, hp, hs, h⟩ := h
    have hd := dup_iff hs
    have hnd : (d.map (·.1)).Nodup ↔ ((keptL ls).map (·.1)).Nodup := (hp.map _).nodup_iff
    have ht := foldN_twice ls
    rcases h with ⟨h1, rfl, rfl⟩ | ⟨h1, h2⟩
    · rw [if_pos (ht.2 (by rw [← hnd]; exact hd.1 h1))]
    · have hn : (d.map (·.1)).Nodup := Classical.byContradiction fun hc => by
        obtain ⟨i, hi⟩ := hd.2 hc; exact h1 i hi
      have he : d = (foldN ls).1 := sorted_unique hs (foldN_sorted ls) hn (hp.trans (foldN_perm ls).symm)
      have htw : ¬ (foldN ls).2 = true := fun hc => (ht.1 hc) (hnd.1 hn)
      rw [if_neg htw, ← he]
      split at h2
      · rename_i h3; rw [if_pos h3, h2.1, h2.2]
      · rename_i h3; rw [if_neg h3, h2.1, h2.2]
  · rw [if_neg ha] at h ⊢
    rw [h.1, h.2]
end Go.Proofs.YtfffblopkaandaaDoor
