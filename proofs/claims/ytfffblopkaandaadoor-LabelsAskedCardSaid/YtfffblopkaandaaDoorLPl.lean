/- Sets and their parts, plain. -/
import Derived.Test.YtfffblopkaandaaDoorLWt
import Derived.Test.YtfffblopkaandaaDoorLBy
import Derived.Test.YtfffblopkaandaaDoorLNw
import Derived.Test.YtfffblopkaandaaDoorLOrd
open Go Go.Vg Go.RowKit Go.Proofs Go.Proofs.YtfffblopkaandaaDoor
namespace Go.Proofs.YtfffblopkaandaaDoor
set_option linter.unusedSimpArgs false

/-- strictly rising names -/
def riseL (ls : List Lab) : Prop := ls.Pairwise fun x y => Op.bytesLess x.1 y.1 = true
theorem rise_sorted {ls : List Lab} (h : riseL ls) : sortedL ls := List.Pairwise.imp (fun h => bl_asymm h) h
theorem rise_nodup {ls : List Lab} (h : riseL ls) : (ls.map (·.1)).Nodup := by
  rw [List.nodup_iff_pairwise_ne, List.pairwise_map]
  exact List.Pairwise.imp (fun h e => by rw [e, bl_irrefl] at h; cases h) h
theorem right_rise {ls : List Lab} (h : rightB ls = true) : riseL ls := by
  have hs : ∀ i, 0 < i → i < ls.length → Op.bytesLess (labAt ls (i - 1)).1 (labAt ls i).1 = true := by
    intro i h0 hi
    simp only [rightB, Bool.and_eq_true, decide_eq_true_eq] at h
    have h2 : okAt ls i = true := by
      first | exact h.1 i hi | exact h.2 i hi
    unfold okAt at h2
    have h3 : ¬ i = 0 := by omega
    have h4 : (fairB (labAt ls i) = true ∧ ¬(labAt ls i).snd = []) ∧ Op.bytesLess (labAt ls (i - 1)).fst (labAt ls i).fst = true := by simpa [h3] using h2
    exact h4.2
  unfold riseL
  rw [List.pairwise_iff_getElem]
  intro i j hi hj hij
  have key : ∀ d i, ∀ (_ : i < ls.length) (h2 : i + d + 1 < ls.length), Op.bytesLess (labAt ls i).1 (labAt ls (i + d + 1)).1 = true := by
    intro d
    induction d with
    | zero => intro i _ h2; exact hs (i + 1) (by omega) h2
    | succ d ih =>
      intro i h1 h2
      exact bl_trans (ih i h1 (by omega)) (hs (i + (d + 1) + 1) (by omega) h2)
  have := key (j - i - 1) i hi (by omega)
  rw [show i + (j - i - 1) + 1 = j by omega, labAt_eq hi, labAt_eq hj] at this
  exact this
theorem rise_right {ls : List Lab} (hm : ∀ x ∈ ls, fairB x = true ∧ x.2 ≠ []) (hr : riseL ls) (hl : ls.length ≤ 64) : rightB ls = true := by
  have hr : rightTo ls ls.length := by
    intro i hi
    have hm := hm _ (labAt_mem hi)
    unfold okAt
    by_cases h0 : i = 0
    · subst h0; simp [hm.1, hm.2]
    · have hbl : Op.bytesLess (labAt ls (i - 1)).1 (labAt ls i).1 = true := by
        rw [labAt_eq hi, labAt_eq (show i - 1 < _ by omega)]
        exact List.pairwise_iff_getElem.1 hr (i - 1) i (by omega) hi (by omega)
      simp [hm.1, hm.2, hbl]
  simp [rightB, hr]; omega
theorem right_pick {ls : List Lab} (h : rightB ls = true) (ns : List (List UInt8)) (b : Bool) : rightB (pickL ls ns b) = true := by
  obtain ⟨h1, h2⟩ := right_fair h
  refine rise_right (fun x hx => h1 x ((List.mem_filter.1 hx).1)) (List.Pairwise.sublist List.filter_sublist (right_rise h)) ?_
  have := pickL_len ls ns b
  omega
theorem pick_perm (ls : List Lab) (ns : List (List UInt8)) : (pickL ls ns false ++ pickL ls ns true).Perm ls := by
  have h := List.filter_append_perm (fun x : Lab => decide (x.1 ∈ ns) == false) ls
  have e : (ls.filter fun x => !(decide (x.1 ∈ ns) == false)) = pickL ls ns true := by
    unfold pickL
    congr 1; funext x
    cases decide (x.1 ∈ ns) <;> rfl
  rw [e] at h
  exact h
theorem get_none {ls : List Lab} {name : List UInt8} (h : ¬ name ∈ ls.map (·.1)) : getL ls name = [] := by
  induction ls with
  | nil => rfl
  | cons x r ih =>
    simp only [List.map_cons, List.mem_cons, not_or] at h
    simp only [getL]
    rw [if_neg (fun e => h.1 e.symm)]
    exact ih h.2
theorem rest_all {ls : List Lab} {name : List UInt8} (h : ¬ name ∈ ls.map (·.1)) : woL ls name = ls := by
  unfold woL pickL
  rw [List.filter_eq_self]
  intro x hx
  have : ¬ x.1 = name := fun e => h (List.mem_map.2 ⟨x, hx, e⟩)
  simp [this]
/-- so many of the first part brought to the second -/
structure Brought (F T B : List Lab) (k : Nat) : Prop where
  perm : B.Perm (F ++ T.take k)
  sorted : sortedL B
theorem brought_step {F T B : List Lab} {k : Nat} (h : Brought F T B k) (hn : ((F ++ T).map (·.1)).Nodup) (hk : k < T.length) (hv : T[k].2 ≠ []) :
    getL B T[k].1 = [] ∧ Brought F T (withS B T[k].1 T[k].2) (k + 1) := by
  have hnot : ¬ T[k].1 ∈ B.map (·.1) := by
    intro hm
    have h1 : T[k].1 ∈ (F ++ T.take k).map (·.1) := (h.perm.map (·.1)).mem_iff.1 hm
    have e : F ++ T = (F ++ T.take k) ++ T[k] :: T.drop (k + 1) := by rw [List.append_assoc, ← List.drop_eq_getElem_cons hk, List.take_append_drop]
    rw [e, List.map_append, List.map_cons, List.nodup_append] at hn
    exact hn.2.2 _ h1 _ (by simp) rfl
  refine ⟨get_none hnot, ?_⟩
  unfold withS
  rw [if_neg hv, rest_all hnot]
  refine ⟨?_, putL_sorted h.sorted⟩
  refine (putL_perm B (T[k].1, T[k].2)).trans ?_
  rw [List.take_succ_eq_append_getElem hk, ← List.append_assoc]
  exact List.Perm.append_right _ h.perm
theorem brought_end {ls B : List Lab} {ns : List (List UInt8)} (hr : rightB ls = true) (h : Brought (pickL ls ns false) (pickL ls ns true) B (pickL ls ns true).length) : B = ls := by
  have hp := h.perm
  rw [List.take_length] at hp
  have hp2 := hp.trans (pick_perm ls ns)
  have hri := right_rise hr
  exact (sorted_unique (rise_sorted hri) h.sorted (rise_nodup hri) hp2.symm).symm
end Go.Proofs.YtfffblopkaandaaDoor
