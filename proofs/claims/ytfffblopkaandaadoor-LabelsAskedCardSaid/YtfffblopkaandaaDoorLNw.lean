/- LabelsNew, walked. -/
import Derived.Test.YtfffblopkaandaaDoorLLend
import Derived.Test.YtfffblopkaandaaDoorLRt
import Derived.Test.YtfffblopkaandaaDoorGL2
import Derived.Test.YtfffblopkaandaaDoorGL1
open Go Go.Vg Go.RowKit Go.Proofs Go.Proofs.YtfffblopkaandaaDoor
namespace Go.Proofs.YtfffblopkaandaaDoor
set_option linter.unusedSimpArgs false

theorem labAt_eq {ls : List Lab} {k : Nat} (h : k < ls.length) : labAt ls k = ls[k] := by simp [labAt, List.getD, h]
theorem newR_right {ls out : List Lab} (h : newR ls = (0, out)) : rightB out = true := by
  unfold newR at h
  split at h
  · rename_i hall
    split at h
    · cases h
    · rename_i htw
      split at h
      · cases h
      · rename_i hlen
        simp only [Prod.mk.injEq, true_and] at h
        subst h
        have hso := foldN_sorted ls
        have hp := foldN_perm ls
        have hnd : ((foldN ls).1.map (·.1)).Nodup := by
          apply Classical.byContradiction
          intro hc
          exact htw ((foldN_twice ls).2 (fun h2 => hc ((hp.map (·.1)).nodup_iff.2 h2)))
        have hno := dup_iff hso
        have hmem : ∀ x ∈ (foldN ls).1, fairB x = true ∧ x.2 ≠ [] := by
          intro x hx
          have hk := hp.mem_iff.1 hx
          simp only [keptL, List.mem_filter, Bool.not_eq_true', decide_eq_false_iff_not] at hk
          exact ⟨List.all_eq_true.1 hall x hk.1, hk.2⟩
        have hr : rightTo (foldN ls).1 (foldN ls).1.length := by
          intro i hi
          have hm := hmem _ (labAt_mem hi)
          unfold okAt
          by_cases h0 : i = 0
          · subst h0; simp [hm.1, hm.2]
          · have hbl : Op.bytesLess (labAt (foldN ls).1 (i - 1)).1 (labAt (foldN ls).1 i).1 = true := by
              rw [labAt_eq hi, labAt_eq (show i - 1 < _ by omega)]
              have h1 := List.pairwise_iff_getElem.1 hso (i - 1) i (by omega) hi (by omega)
              rcases bl_not h1 with e | e
              · exfalso
                refine hno.1 ⟨i, by omega, hi, ?_⟩ hnd
                rw [labAt_eq hi, labAt_eq (show i - 1 < _ by omega)]; exact e.symm
              · exact e
            simp [hm.1, hm.2, hbl]
        simp [rightB, hr]; omega
  · cases h

theorem new_law (v : Value) (ls0 : List Lab) (w0 : World) (hv0 : Labs w0 v ls0) (hz0 : ∀ x ∈ ls0, LabSz x) (hT : Tabs w0) :
    Ret Tryd.prog 4 ⟨[v]⟩ w0 fun r w' => r = .bool true ∧ Ext w0 w' := by
  refine ret_of_G Tryd.func4 rfl Tryd.ntmps4 rfl ?_
  simp only [argEnv]
  try (first | refine gl tb ?_ | refine gg tb ?_ | refine ll tb ?_ | refine lg tb ?_); repeat ((first | refine G.condT rfl ?_ | refine G.condF rfl ?_ | refine sFa tb ?_ | refine sLd tb ?_ | refine sLa tb ?_ | refine sLen tb ?_ | refine sFd tb ?_ | refine sBd tb ?_ | refine sBa tb ?_); try (first | refine gl tb ?_ | refine gg tb ?_ | refine ll tb ?_ | refine lg tb ?_))
  refine sCall c16 (cut_ok v ls0 w0 hv0) ?_
  rintro v' w ⟨hv, hw⟩
  obtain rfl : w0 = w := hw.symm
  have hn : (ls0.take 80).length ≤ 80 := by rw [List.length_take]; omega
  have hz : ∀ x ∈ ls0.take 80, LabSz x := fun x hx => hz0 x (List.mem_of_mem_take hx)
  generalize ls0.take 80 = ls at hv hn hz
  clear hv0 hz0 hw
  try (first | refine gl tb ?_ | refine gg tb ?_ | refine ll tb ?_ | refine lg tb ?_); repeat ((first | refine G.condT rfl ?_ | refine G.condF rfl ?_ | refine sFa tb ?_ | refine sLd tb ?_ | refine sLa tb ?_ | refine sLen tb ?_ | refine sFd tb ?_ | refine sBd tb ?_ | refine sBa tb ?_); try (first | refine gl tb ?_ | refine gg tb ?_ | refine ll tb ?_ | refine lg tb ?_))
  refine sCall c17 (lend_ok v' ls w0 hv (by omega)) ?_
  rintro _ w1 ⟨u, rfl, hu, hx1⟩
  have hl4 : (ls ++ marksTo 4).length = ls.length + 4 := by simp [marks_len]
  have hsub : Labs w1 (subS u 2 0 ls.length) ls := by
    have := Labs.sub hu.sli (Nat.zero_le ls.length) (by rw [hl4]; omega)
    rwa [List.drop_zero, Nat.sub_zero, List.take_left] at this
  try (first | refine gl tb ?_ | refine gg tb ?_ | refine ll tb ?_ | refine lg tb ?_); repeat ((first | refine G.condT rfl ?_ | refine G.condF rfl ?_ | refine sFa tb ?_ | refine sLd tb ?_ | refine sLa tb ?_ | refine sLen tb ?_ | refine sFd tb ?_ | refine sBd tb ?_ | refine sBa tb ?_); try (first | refine gl tb ?_ | refine gg tb ?_ | refine ll tb ?_ | refine lg tb ?_))
  refine sCall c18 (new_ok (subS u 2 0 ls.length) ls w1 hsub (by omega) hz (hT.to hx1)) ?_
  rintro _ w2 ⟨a, e, out, rfl, hnew, hoa, hx2⟩
  have hR := newS_R hnew
  try (first | refine gl tb ?_ | refine gg tb ?_ | refine ll tb ?_ | refine lg tb ?_); repeat ((first | refine G.condT rfl ?_ | refine G.condF rfl ?_ | refine sFa tb ?_ | refine sLd tb ?_ | refine sLa tb ?_ | refine sLen tb ?_ | refine sFd tb ?_ | refine sBd tb ?_ | refine sBa tb ?_); try (first | refine gl tb ?_ | refine gg tb ?_ | refine ll tb ?_ | refine lg tb ?_))
  refine sCall c19 (refNew_ok v' ls w2 (hv.to (hx1.trans hx2)) (by omega) hz) ?_
  rintro _ w3 ⟨b, rfl, hob, hx3⟩
  rw [hR] at hob ⊢
  simp only at hob ⊢
  have hx03 := (hx1.trans hx2).trans hx3
  have hu3 := (hu.to hx2).to hx3
  have hoa3 := hoa.to hx3
  try (first | refine gl tb ?_ | refine gg tb ?_ | refine ll tb ?_ | refine lg tb ?_); repeat ((first | refine G.condT rfl ?_ | refine G.condF rfl ?_ | refine sFa tb ?_ | refine sLd tb ?_ | refine sLa tb ?_ | refine sLen tb ?_ | refine sFd tb ?_ | refine sBd tb ?_ | refine sBa tb ?_); try (first | refine gl tb ?_ | refine gg tb ?_ | refine ll tb ?_ | refine lg tb ?_))
  refine sCall c20 (intact_ok u v' ls w0 w3 hv (by omega) hx03 hu3) ?_
  rintro _ w4 ⟨rfl, hg4⟩
  have hx04 : Ext w0 w4 := hg4.below _ hx03
  have hoa4 := (hoa3.grew hg4 (hu.apart hoa)).sli
  have hob4 := (hob.grew hg4 ((hu.to hx2).apart hob)).sli
  have hv4 := hv.to hx04
  have hzo : ∀ x ∈ out, LabSz x := by
    intro x hx
    have : out = (newR ls).2 := by rw [hR]
    rw [this] at hx
    exact hz x (newR_mem hx)
  have hro : e = 0 → rightB out = true := fun h => newR_right (ls := ls) (by rw [hR, h])
  have heq : eqN out out = true := by simp [eqN]
  clear hoa hob hoa3 hu3 hu hsub hg4 hx1 hx2 hx3 hx03 hR hnew
  try (first | refine gl tb ?_ | refine gg tb ?_ | refine ll tb ?_ | refine lg tb ?_); repeat ((first | refine G.condT rfl ?_ | refine G.condF rfl ?_ | refine sFa tb ?_ | refine sLd tb ?_ | refine sLa tb ?_ | refine sLen tb ?_ | refine sFd tb ?_ | refine sBd tb ?_ | refine sBa tb ?_); try (first | refine gl tb ?_ | refine gg tb ?_ | refine ll tb ?_ | refine lg tb ?_))
  refine sCallx c21 (fun hc => keepLabels_ok a b out out w4 hoa4 hob4) ?_
  intro w5 hx5
  rw [heq]
  try (first | refine gl tb ?_ | refine gg tb ?_ | refine ll tb ?_ | refine lg tb ?_); repeat ((first | refine G.condT rfl ?_ | refine G.condF rfl ?_ | refine sFa tb ?_ | refine sLd tb ?_ | refine sLa tb ?_ | refine sLen tb ?_ | refine sFd tb ?_ | refine sBd tb ?_ | refine sBa tb ?_); try (first | refine gl tb ?_ | refine gg tb ?_ | refine ll tb ?_ | refine lg tb ?_))
  refine sCallx c22 (fun hc => lright_ok v' ls w5 (hv4.to hx5) hz (hT.to (hx04.trans hx5))) ?_
  intro w6 hx6
  have hx46 := hx5.trans hx6
  try (first | refine gl tb ?_ | refine gg tb ?_ | refine ll tb ?_ | refine lg tb ?_); repeat ((first | refine G.condT rfl ?_ | refine G.condF rfl ?_ | refine sFa tb ?_ | refine sLd tb ?_ | refine sLa tb ?_ | refine sLen tb ?_ | refine sFd tb ?_ | refine sBd tb ?_ | refine sBa tb ?_); try (first | refine gl tb ?_ | refine gg tb ?_ | refine ll tb ?_ | refine lg tb ?_))
  refine sCallx c23 (fun hc => refRight_ok v' ls w6 (hv4.to hx46) hz) ?_
  intro w7 hx7
  have hx47 := hx46.trans hx7
  try (first | refine gl tb ?_ | refine gg tb ?_ | refine ll tb ?_ | refine lg tb ?_); repeat ((first | refine G.condT rfl ?_ | refine G.condF rfl ?_ | refine sFa tb ?_ | refine sLd tb ?_ | refine sLa tb ?_ | refine sLen tb ?_ | refine sFd tb ?_ | refine sBd tb ?_ | refine sBa tb ?_); try (first | refine gl tb ?_ | refine gg tb ?_ | refine ll tb ?_ | refine lg tb ?_))
  first | refine G.condD rfl (fun hc => ?_) (fun hc => ?_) | refine G.condN rfl (fun hc => ?_) (fun hc => ?_) | refine G.cond rfl (fun hc => ?_) (fun hc => ?_)
  · exact absurd hc (by simp)
  · clear hc
    try (first | refine gl tb ?_ | refine gg tb ?_ | refine ll tb ?_ | refine lg tb ?_); repeat ((first | refine G.condT rfl ?_ | refine G.condF rfl ?_ | refine sFa tb ?_ | refine sLd tb ?_ | refine sLa tb ?_ | refine sLen tb ?_ | refine sFd tb ?_ | refine sBd tb ?_ | refine sBa tb ?_); try (first | refine gl tb ?_ | refine gg tb ?_ | refine ll tb ?_ | refine lg tb ?_))
    refine sCallx c22 (fun hc => lright_ok a out w7 (hoa4.to hx47) hzo (hT.to (hx04.trans hx47))) ?_
    intro w8 hx8
    have hx48 := hx47.trans hx8
    try (first | refine gl tb ?_ | refine gg tb ?_ | refine ll tb ?_ | refine lg tb ?_); repeat ((first | refine G.condT rfl ?_ | refine G.condF rfl ?_ | refine sFa tb ?_ | refine sLd tb ?_ | refine sLa tb ?_ | refine sLen tb ?_ | refine sFd tb ?_ | refine sBd tb ?_ | refine sBa tb ?_); try (first | refine gl tb ?_ | refine gg tb ?_ | refine ll tb ?_ | refine lg tb ?_))
    refine sCallx c15 (fun hc => wakes_ok w8 (hT.to (hx04.trans hx48))) ?_
    intro w9 hx9
    try (first | refine gl tb ?_ | refine gg tb ?_ | refine ll tb ?_ | refine lg tb ?_); repeat ((first | refine G.condT rfl ?_ | refine G.condF rfl ?_ | refine sFa tb ?_ | refine sLd tb ?_ | refine sLa tb ?_ | refine sLen tb ?_ | refine sFd tb ?_ | refine sBd tb ?_ | refine sBa tb ?_); try (first | refine gl tb ?_ | refine gg tb ?_ | refine ll tb ?_ | refine lg tb ?_))
    refine G.ret1 rfl rfl rfl rfl ?_
    refine ⟨?_, (hx04.trans hx48).trans hx9⟩
    by_cases he : e = 0
    · rw [hro he]; simp
    · simp [he]
end Go.Proofs.YtfffblopkaandaaDoor
