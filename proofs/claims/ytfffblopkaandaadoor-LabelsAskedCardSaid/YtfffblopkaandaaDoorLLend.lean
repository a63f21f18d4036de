/- labels lent and looked at again, walked. -/
import Derived.Test.YtfffblopkaandaaDoorLEq
import Derived.Test.YtfffblopkaandaaDoorGL1
import Derived.Test.YtfffblopkaandaaDoorGV2
open Go Go.Vg Go.RowKit Go.Proofs Go.Proofs.YtfffblopkaandaaDoor
namespace Go.Proofs.YtfffblopkaandaaDoor
set_option linter.unusedSimpArgs false

def markL (i : Int) : Lab := ([108, 101, 110, 116], [byI (97 + i)])
def marksTo (n : Nat) : List Lab := (List.range n).map fun j : Nat => markL (j : Int)
theorem marks_succ (n : Nat) : marksTo (n + 1) = marksTo n ++ [markL n] := by simp [marksTo, List.range_succ]
theorem marks_len (n : Nat) : (marksTo n).length = n := by simp [marksTo]
abbrev LOw (w : World) (B : Nat) (v : Value) (ls : List Lab) : Prop := Owns w B v 28 2 (ls.map labC)

theorem labC_one (x : Lab) : ∀ v ∈ labC x, v.oneCell' = true := by simp [Value.oneCell', S, labC]
theorem mark_ok (i : Int) (w : World) (h0 : 0 ≤ i) (h1 : i ≤ 100) : Ret Tryd.prog 54 ⟨[.int .i64 i]⟩ w fun r w' => r = .agg ⟨labC (markL i)⟩ ∧ Ext w w' := by
  refine ret_of_G Tryd.func54 rfl Tryd.ntmps54 rfl ?_
  simp only [argEnv]
  try (first | refine gl tb ?_ | refine gg tb ?_ | refine ll tb ?_ | refine lg tb ?_); repeat ((first | refine G.condT rfl ?_ | refine G.condF rfl ?_ | refine sFa tb ?_ | refine sLd tb ?_ | refine sLa tb ?_ | refine sLen tb ?_ | refine sFd tb ?_ | refine sBd tb ?_ | refine sBa tb ?_); try (first | refine gl tb ?_ | refine gg tb ?_ | refine ll tb ?_ | refine lg tb ?_))
  refine sAl tb ?_
  intro w1 hb1 hs1 hx1
  try (first | refine gl tb ?_ | refine gg tb ?_ | refine ll tb ?_ | refine lg tb ?_); repeat ((first | refine G.condT rfl ?_ | refine G.condF rfl ?_ | refine sFa tb ?_ | refine sLd tb ?_ | refine sLa tb ?_ | refine sLen tb ?_ | refine sFd tb ?_ | refine sBd tb ?_ | refine sBa tb ?_); try (first | refine gl tb ?_ | refine gg tb ?_ | refine ll tb ?_ | refine lg tb ?_))
  refine sAd tb ?_
  refine sCb tb ?_
  refine sBs' tb (bysC [byI (97 + i)]) ?_ (hkl := bysC_k _)
  intro v2 w2 ho2 hs2 hx2
  have hb2 := hb1.to hx2
  have hx02 := hx1.trans hx2
  refine sByS tb ho2.sli ?_
  try (first | refine gl tb ?_ | refine gg tb ?_ | refine ll tb ?_ | refine lg tb ?_); repeat ((first | refine G.condT rfl ?_ | refine G.condF rfl ?_ | refine sFa tb ?_ | refine sLd tb ?_ | refine sLa tb ?_ | refine sLen tb ?_ | refine sFd tb ?_ | refine sBd tb ?_ | refine sBa tb ?_); try (first | refine gl tb ?_ | refine gg tb ?_ | refine ll tb ?_ | refine lg tb ?_))
  refine sSt tb ?_ (b := w.heap.size) (vs := labC (markL i)) (h1 := labC_one _)
  intro w3 hb3 hw3
  try (first | refine gl tb ?_ | refine gg tb ?_ | refine ll tb ?_ | refine lg tb ?_); repeat ((first | refine G.condT rfl ?_ | refine G.condF rfl ?_ | refine sFa tb ?_ | refine sLd tb ?_ | refine sLa tb ?_ | refine sLen tb ?_ | refine sFd tb ?_ | refine sBd tb ?_ | refine sBa tb ?_); try (first | refine gl tb ?_ | refine gg tb ?_ | refine ll tb ?_ | refine lg tb ?_))
  exact G.retA tb rfl rfl hb3.cells ⟨rfl, Below.wr hx02 hw3 (Nat.le_refl _)⟩ rfl rfl rfl rfl rfl rfl

theorem lend_ok (v : Value) (ls : List Lab) (w : World) (hv : Labs w v ls) (hn : ls.length ≤ 1000) :
    Ret Tryd.prog 17 ⟨[v]⟩ w fun r w' => ∃ u, r = subS u 2 0 ls.length ∧ LOw w' w.heap.size u (ls ++ marksTo 4) ∧ Ext w w' := by
  refine ret_of_G Tryd.func17 rfl Tryd.ntmps17 rfl ?_
  simp only [argEnv]
  try (first | refine gl tb ?_ | refine gg tb ?_ | refine ll tb ?_ | refine lg tb ?_); repeat ((first | refine G.condT rfl ?_ | refine G.condF rfl ?_ | refine sFa tb ?_ | refine sLd tb ?_ | refine sLa tb ?_ | refine sLen tb ?_ | refine sFd tb ?_ | refine sBd tb ?_ | refine sBa tb ?_); try (first | refine gl tb ?_ | refine gg tb ?_ | refine ll tb ?_ | refine lg tb ?_))
  refine sBs' tb [] ?_
  intro v1 w1 ho1 hs1 hx1
  try (first | refine gl tb ?_ | refine gg tb ?_ | refine ll tb ?_ | refine lg tb ?_); repeat ((first | refine G.condT rfl ?_ | refine G.condF rfl ?_ | refine sFa tb ?_ | refine sLd tb ?_ | refine sLa tb ?_ | refine sLen tb ?_ | refine sFd tb ?_ | refine sBd tb ?_ | refine sBa tb ?_); try (first | refine gl tb ?_ | refine gg tb ?_ | refine ll tb ?_ | refine lg tb ?_))
  refine sApp tb ho1 (hv.to hx1) ?_ (h1 := lab1 _)
  intro v2 w2 ho2 hg2
  have hx2 : Ext w w2 := hg2.below _ hx1
  rw [List.nil_append] at ho2
  try (first | refine gl tb ?_ | refine gg tb ?_ | refine ll tb ?_ | refine lg tb ?_); repeat ((first | refine G.condT rfl ?_ | refine G.condF rfl ?_ | refine sFa tb ?_ | refine sLd tb ?_ | refine sLa tb ?_ | refine sLen tb ?_ | refine sFd tb ?_ | refine sBd tb ?_ | refine sBa tb ?_); try (first | refine gl tb ?_ | refine gg tb ?_ | refine ll tb ?_ | refine lg tb ?_))
  refine (G.loop (fun x : Nat × Value => [(0, none, v), (3, none, x.2), (4, none, .int .i64 x.1)]) (fun x w' => Ext w w' ∧ x.1 ≤ 4 ∧ LOw w' w.heap.size x.2 (ls ++ marksTo x.1)) (fun x => 4 - x.1) (0, v2) (by repeat (first | exact Sub.nil _ | refine Sub.cons rfl ?_)) ⟨hx2, by simp, by simpa [marksTo] using ho2⟩ ?_)
  clear ho1 hs1 hx1 ho2 hg2 hx2
  rintro ⟨k, s⟩ w3 ⟨hx3, hk, ho⟩
  simp only at hk ho ⊢
  try (first | refine gl tb ?_ | refine gg tb ?_ | refine ll tb ?_ | refine lg tb ?_); repeat ((first | refine G.condT rfl ?_ | refine G.condF rfl ?_ | refine sFa tb ?_ | refine sLd tb ?_ | refine sLa tb ?_ | refine sLen tb ?_ | refine sFd tb ?_ | refine sBd tb ?_ | refine sBa tb ?_); try (first | refine gl tb ?_ | refine gg tb ?_ | refine ll tb ?_ | refine lg tb ?_))
  first | refine G.condD rfl (fun hc => ?_) (fun hc => ?_) | refine G.condN rfl (fun hc => ?_) (fun hc => ?_) | refine G.cond rfl (fun hc => ?_) (fun hc => ?_)
  · try (first | refine gl tb ?_ | refine gg tb ?_ | refine ll tb ?_ | refine lg tb ?_); repeat ((first | refine G.condT rfl ?_ | refine G.condF rfl ?_ | refine sFa tb ?_ | refine sLd tb ?_ | refine sLa tb ?_ | refine sLen tb ?_ | refine sFd tb ?_ | refine sBd tb ?_ | refine sBa tb ?_); try (first | refine gl tb ?_ | refine gg tb ?_ | refine ll tb ?_ | refine lg tb ?_))
    refine sCallx c54 (fun hc => mark_ok k w3 (by omega) (by omega)) ?_
    intro w4 hx4
    refine sBs' tb [labC (markL k)] ?_ (hkl := labLen [_])
    intro v5 w5 ho5 hs5 hx5
    have hx45 := hx4.trans hx5
    have hx05 := hx3.trans hx45
    refine sApp tb (ho.to hx45) ho5.sli ?_ (h1 := lab1 [_]) (hB := hx05.size) (hb := by simp only [List.length_map, List.length_append, List.length_cons, List.length_nil, marks_len]; omega) (hl := by simp only [List.length_map, List.length_append, List.length_cons, List.length_nil, marks_len]; omega)
    intro v6 w6 ho6 hg6
    try (first | refine gl tb ?_ | refine gg tb ?_ | refine ll tb ?_ | refine lg tb ?_); repeat ((first | refine G.condT rfl ?_ | refine G.condF rfl ?_ | refine sFa tb ?_ | refine sLd tb ?_ | refine sLa tb ?_ | refine sLen tb ?_ | refine sFd tb ?_ | refine sBd tb ?_ | refine sBa tb ?_); try (first | refine gl tb ?_ | refine gg tb ?_ | refine ll tb ?_ | refine lg tb ?_))
    refine sAd tb ?_
    try (first | refine gl tb ?_ | refine gg tb ?_ | refine ll tb ?_ | refine lg tb ?_); repeat ((first | refine G.condT rfl ?_ | refine G.condF rfl ?_ | refine sFa tb ?_ | refine sLd tb ?_ | refine sLa tb ?_ | refine sLen tb ?_ | refine sFd tb ?_ | refine sBd tb ?_ | refine sBa tb ?_); try (first | refine gl tb ?_ | refine gg tb ?_ | refine ll tb ?_ | refine lg tb ?_))
    exact G.lp (x := (k, s)) (k + 1, v6) (by repeat (first | exact Sub.nil _ | refine Sub.cons rfl ?_)) ⟨hg6.below _ hx05, by simp only; omega, by simp only [marks_succ]; rw [← List.append_assoc]; unfold LOw; rw [List.map_append]; exact ho6⟩ (by simp only; omega)
  · have hke : k = 4 := by omega
    subst hke
    try (first | refine gl tb ?_ | refine gg tb ?_ | refine ll tb ?_ | refine lg tb ?_); repeat ((first | refine G.condT rfl ?_ | refine G.condF rfl ?_ | refine sFa tb ?_ | refine sLd tb ?_ | refine sLa tb ?_ | refine sLen tb ?_ | refine sFd tb ?_ | refine sBd tb ?_ | refine sBa tb ?_); try (first | refine gl tb ?_ | refine gg tb ?_ | refine ll tb ?_ | refine lg tb ?_))
    rw [List.length_map]
    refine GL.cons (Step.sliceVh tb ls.length rfl (Op1.of rfl (by first | exact fun _ => rfl | exact fun h => h | exact fun h => bL h | exact fun h => bL (bL h) | exact fun h => bL (bL (bL h)))) (Op1.of rfl (by first | exact fun _ => rfl | exact fun h => h | exact fun h => bL h | exact fun h => bL (bL h) | exact fun h => bL (bL (bL h)))) rfl rfl (fun _ => ⟨_, ho.sli⟩) (fun _ => ⟨rfl, by simp⟩) rfl ?_)
    try (first | refine gl tb ?_ | refine gg tb ?_ | refine ll tb ?_ | refine lg tb ?_); repeat ((first | refine G.condT rfl ?_ | refine G.condF rfl ?_ | refine sFa tb ?_ | refine sLd tb ?_ | refine sLa tb ?_ | refine sLen tb ?_ | refine sFd tb ?_ | refine sBd tb ?_ | refine sBa tb ?_); try (first | refine gl tb ?_ | refine gg tb ?_ | refine ll tb ?_ | refine lg tb ?_))
    refine G.ret1 rfl rfl rfl rfl ?_
    exact ⟨s, rfl, ho, hx3⟩

theorem intact_ok (u v : Value) (ls : List Lab) (w0 w : World) (hv : Labs w0 v ls) (hn : ls.length ≤ 1000) (hx : Ext w0 w) (ho : LOw w w0.heap.size u (ls ++ marksTo 4)) :
    Ret Tryd.prog 20 ⟨[subS u 2 0 ls.length, v]⟩ w fun r w' => r = .bool true ∧ Grew w0.heap.size u w w' := by
  have hl4 : (ls ++ marksTo 4).length = ls.length + 4 := by simp [marks_len]
  have hlm : ((ls ++ marksTo 4).map labC).length = ls.length + 4 := by rw [List.length_map, hl4]
  have hv1 := hv.to hx
  have hxz := hx.size
  refine ret_of_G Tryd.func20 rfl Tryd.ntmps20 rfl ?_
  simp only [argEnv]
  try (first | refine gl tb ?_ | refine gg tb ?_ | refine ll tb ?_ | refine lg tb ?_); repeat ((first | refine G.condT rfl ?_ | refine G.condF rfl ?_ | refine sFa tb ?_ | refine sLd tb ?_ | refine sLa tb ?_ | refine sLen tb ?_ | refine sFd tb ?_ | refine sBd tb ?_ | refine sBa tb ?_); try (first | refine gl tb ?_ | refine gg tb ?_ | refine ll tb ?_ | refine lg tb ?_))
  rw [List.length_map]
  refine sAd tb ?_
  refine GL.cons (Step.sliceUp tb ls.length rfl (Op1.of rfl (by first | exact fun _ => rfl | exact fun h => h | exact fun h => bL h | exact fun h => bL (bL h) | exact fun h => bL (bL (bL h)))) (Op1.of rfl (by first | exact fun _ => rfl | exact fun h => h | exact fun h => bL h | exact fun h => bL (bL h) | exact fun h => bL (bL (bL h)))) rfl rfl ⟨_, ho.sli⟩ (fun _ => by rw [hlm]; omega) rfl ?_)
  try (first | refine gl tb ?_ | refine gg tb ?_ | refine ll tb ?_ | refine lg tb ?_); repeat ((first | refine G.condT rfl ?_ | refine G.condF rfl ?_ | refine sFa tb ?_ | refine sLd tb ?_ | refine sLa tb ?_ | refine sLen tb ?_ | refine sFd tb ?_ | refine sBd tb ?_ | refine sBa tb ?_); try (first | refine gl tb ?_ | refine gg tb ?_ | refine ll tb ?_ | refine lg tb ?_))
  rw [List.length_map]
  refine GL.cons (Step.sliceVh tb ls.length rfl (Op1.of rfl (by first | exact fun _ => rfl | exact fun h => h | exact fun h => bL h | exact fun h => bL (bL h) | exact fun h => bL (bL (bL h)))) (Op1.of rfl (by first | exact fun _ => rfl | exact fun h => h | exact fun h => bL h | exact fun h => bL (bL h) | exact fun h => bL (bL (bL h)))) rfl rfl (fun _ => ⟨_, ho.sli⟩) (fun _ => ⟨rfl, by rw [hlm]; omega⟩) rfl ?_)
  try (first | refine gl tb ?_ | refine gg tb ?_ | refine ll tb ?_ | refine lg tb ?_); repeat ((first | refine G.condT rfl ?_ | refine G.condF rfl ?_ | refine sFa tb ?_ | refine sLd tb ?_ | refine sLa tb ?_ | refine sLen tb ?_ | refine sFd tb ?_ | refine sBd tb ?_ | refine sBa tb ?_); try (first | refine gl tb ?_ | refine gg tb ?_ | refine ll tb ?_ | refine lg tb ?_))
  have hsub : Labs w (subS u 2 0 ls.length) ls := by
    have := Labs.sub ho.sli (Nat.zero_le ls.length) (by rw [hl4]; omega)
    rwa [List.drop_zero, Nat.sub_zero, List.take_left] at this
  refine sCallx c21 (fun hc => keepLabels_ok (subS u 2 0 ls.length) v ls ls w hsub hv1) ?_
  intro w1 hx1
  have heq : eqN ls ls = true := by simp [eqN]
  rw [heq]
  have ho1 := ho.to hx1
  have hg1 : Grew w0.heap.size u w w1 := Grew.ofExt hx1 hxz
  have hx01 := hx.trans hx1
  try (first | refine gl tb ?_ | refine gg tb ?_ | refine ll tb ?_ | refine lg tb ?_); repeat ((first | refine G.condT rfl ?_ | refine G.condF rfl ?_ | refine sFa tb ?_ | refine sLd tb ?_ | refine sLa tb ?_ | refine sLen tb ?_ | refine sFd tb ?_ | refine sBd tb ?_ | refine sBa tb ?_); try (first | refine gl tb ?_ | refine gg tb ?_ | refine ll tb ?_ | refine lg tb ?_))
  refine (G.loop (fun k : Nat => [(1, none, v), (5, none, u), (6, none, .bool true), (7, none, .int .i64 k)]) (fun k w' => Ext w1 w' ∧ k ≤ 4) (fun k => 4 - k) 0 (by repeat (first | exact Sub.nil _ | refine Sub.cons rfl ?_)) ⟨Ext.refl _, by omega⟩ ?_)
  rintro k w2 ⟨hx2, hk⟩
  have hv2 := (hv.to hx01).to hx2
  have ho2 := (ho1.to hx2)
  have hs2 := ho2.sli
  try (first | refine gl tb ?_ | refine gg tb ?_ | refine ll tb ?_ | refine lg tb ?_); repeat ((first | refine G.condT rfl ?_ | refine G.condF rfl ?_ | refine sFa tb ?_ | refine sLd tb ?_ | refine sLa tb ?_ | refine sLen tb ?_ | refine sFd tb ?_ | refine sBd tb ?_ | refine sBa tb ?_); try (first | refine gl tb ?_ | refine gg tb ?_ | refine ll tb ?_ | refine lg tb ?_))
  first | refine G.condD rfl (fun hc => ?_) (fun hc => ?_) | refine G.condN rfl (fun hc => ?_) (fun hc => ?_) | refine G.cond rfl (fun hc => ?_) (fun hc => ?_)
  · have hlt : k < 4 := by omega
    have hget : ((ls ++ marksTo 4).map labC)[ls.length + k]? = some (labC (markL k)) := by
      rw [List.getElem?_map, List.getElem?_append_right (by omega), Nat.add_sub_cancel_left]
      simp [marksTo, hlt]
    try (first | refine gl tb ?_ | refine gg tb ?_ | refine ll tb ?_ | refine lg tb ?_); repeat ((first | refine G.condT rfl ?_ | refine G.condF rfl ?_ | refine sFa tb ?_ | refine sLd tb ?_ | refine sLa tb ?_ | refine sLen tb ?_ | refine sFd tb ?_ | refine sBd tb ?_ | refine sBa tb ?_); try (first | refine gl tb ?_ | refine gg tb ?_ | refine ll tb ?_ | refine lg tb ?_))
    refine G.regionM [(0, true), (1, true), (2, true), (3, true), (4, true), (5, true), (6, true), (7, true), (8, true), (9, true), (10, false), (11, true), (12, true), (13, true)] (Ext w2) (by kernel_rfl) (by kernel_rfl) rfl mixed (Ext.drew w2) rfl ?_
    have hlv : (ls.map labC).length = ls.length := List.length_map ..
    try (refine mm tb ?_); repeat ((first | refine dFa tb ?_ | refine dLd tb ?_ | refine dLa tb ?_ | refine dLen tb ?_ | refine dFd tb ?_); try (refine mm tb ?_))
    refine dAd tb ?_
    refine dIa tb (ls.length + k) ?_ (xs := (ls ++ marksTo 4).map labC) (hj := fun _ => ⟨by rw [List.length_map]; omega, by rw [hlm]; omega⟩)
    try (refine mm tb ?_); repeat ((first | refine dFa tb ?_ | refine dLd tb ?_ | refine dLa tb ?_ | refine dLen tb ?_ | refine dFd tb ?_); try (refine mm tb ?_))
    refine GM.eff (Step.callX rfl rfl (by repeat (first | exact OpL.nil | refine OpL.cons (Op1.of rfl (by first | exact fun _ => rfl | exact fun h => h | exact fun h => bL h | exact fun h => bL (bL h) | exact fun h => bL (bL (bL h)))) ?_)) c54 rfl (fun hc => mark_ok k w2.drew (by omega) (by omega)) ?_)
    intro w3 hx3
    have hx3 := (Ext.drew w2).trans hx3
    refine ⟨hx3, ?_⟩
    try (refine mm tb ?_); repeat ((first | refine dFa tb ?_ | refine dLd tb ?_ | refine dLa tb ?_ | refine dLen tb ?_ | refine dFd tb ?_); try (refine mm tb ?_))
    refine GM.read (fun w' hS => Step.eqSt tb rfl (Op1.of rfl (by first | exact fun _ => rfl | exact fun h => h | exact fun h => bL h | exact fun h => bL (bL h) | exact fun h => bL (bL (bL h)))) (Op1.of rfl (by first | exact fun _ => rfl | exact fun h => h | exact fun h => bL h | exact fun h => bL (bL h) | exact fun h => bL (bL (bL h)))) rfl (by kernel_rfl) (by kernel_rfl) (eqLab _ _ _ rfl) rfl (.inl rfl) ⟨rfl, rfl⟩) rfl rfl ?_
    rw [decide_eq_true rfl]
    try (refine mm tb ?_); repeat ((first | refine dFa tb ?_ | refine dLd tb ?_ | refine dLa tb ?_ | refine dLen tb ?_ | refine dFd tb ?_); try (refine mm tb ?_))
    refine GM.nil ?_
    try (first | refine gl tb ?_ | refine gg tb ?_ | refine ll tb ?_ | refine lg tb ?_); repeat ((first | refine G.condT rfl ?_ | refine G.condF rfl ?_ | refine sFa tb ?_ | refine sLd tb ?_ | refine sLa tb ?_ | refine sLen tb ?_ | refine sFd tb ?_ | refine sBd tb ?_ | refine sBa tb ?_); try (first | refine gl tb ?_ | refine gg tb ?_ | refine ll tb ?_ | refine lg tb ?_))
    refine sAd tb ?_
    try (first | refine gl tb ?_ | refine gg tb ?_ | refine ll tb ?_ | refine lg tb ?_); repeat ((first | refine G.condT rfl ?_ | refine G.condF rfl ?_ | refine sFa tb ?_ | refine sLd tb ?_ | refine sLa tb ?_ | refine sLen tb ?_ | refine sFd tb ?_ | refine sBd tb ?_ | refine sBa tb ?_); try (first | refine gl tb ?_ | refine gg tb ?_ | refine ll tb ?_ | refine lg tb ?_))
    exact G.lp (k + 1) (by repeat (first | exact Sub.nil _ | refine Sub.cons rfl ?_)) ⟨hx2.trans hx3, by omega⟩ (by omega)
  · have hg2 := hg1.trans (Grew.ofExt (B := w0.heap.size) (u := u) hx2 hx01.size)
    have hx02 := hx01.trans hx2
    clear hsub hs2 ho1 hv2
    try (first | refine gl tb ?_ | refine gg tb ?_ | refine ll tb ?_ | refine lg tb ?_); repeat ((first | refine G.condT rfl ?_ | refine G.condF rfl ?_ | refine sFa tb ?_ | refine sLd tb ?_ | refine sLa tb ?_ | refine sLen tb ?_ | refine sFd tb ?_ | refine sBd tb ?_ | refine sBa tb ?_); try (first | refine gl tb ?_ | refine gg tb ?_ | refine ll tb ?_ | refine lg tb ?_))
    refine (G.loop (fun k : Nat => [(5, none, u), (6, none, .bool true), (8, none, .int .i64 k)]) (fun k w' => Grew w0.heap.size u w w' ∧ k ≤ ls.length + 4 ∧ ∃ xs, Owns w' w0.heap.size u 28 2 xs ∧ xs.length = ls.length + 4) (fun k => ls.length + 4 - k) 0 (by repeat (first | exact Sub.nil _ | refine Sub.cons rfl ?_)) ⟨hg2, by omega, _, ho2, hlm⟩ ?_)
    rintro k w3 ⟨hg3, hk, xs, ho3, hxl⟩
    have hxz3 := (hg3.below _ hx).size
    try (first | refine gl tb ?_ | refine gg tb ?_ | refine ll tb ?_ | refine lg tb ?_); repeat ((first | refine G.condT rfl ?_ | refine G.condF rfl ?_ | refine sFa tb ?_ | refine sLd tb ?_ | refine sLa tb ?_ | refine sLen tb ?_ | refine sFd tb ?_ | refine sBd tb ?_ | refine sBa tb ?_); try (first | refine gl tb ?_ | refine gg tb ?_ | refine ll tb ?_ | refine lg tb ?_))
    first | refine G.condD rfl (fun hc => ?_) (fun hc => ?_) | refine G.condN rfl (fun hc => ?_) (fun hc => ?_) | refine G.cond rfl (fun hc => ?_) (fun hc => ?_)
    · have hlt : k < xs.length := by omega
      try (first | refine gl tb ?_ | refine gg tb ?_ | refine ll tb ?_ | refine lg tb ?_); repeat ((first | refine G.condT rfl ?_ | refine G.condF rfl ?_ | refine sFa tb ?_ | refine sLd tb ?_ | refine sLa tb ?_ | refine sLen tb ?_ | refine sFd tb ?_ | refine sBd tb ?_ | refine sBa tb ?_); try (first | refine gl tb ?_ | refine gg tb ?_ | refine ll tb ?_ | refine lg tb ?_))
      refine sCallx c54 (fun hc => mark_ok 9 w3 (by omega) (by omega)) ?_
      intro w4 hx4
      have ho4 := ho3.to hx4
      refine sIa tb k ?_
      refine sStR tb ho4 hlt ?_ (h1 := labC_one _)
      intro w5 ho5 hg5
      try (first | refine gl tb ?_ | refine gg tb ?_ | refine ll tb ?_ | refine lg tb ?_); repeat ((first | refine G.condT rfl ?_ | refine G.condF rfl ?_ | refine sFa tb ?_ | refine sLd tb ?_ | refine sLa tb ?_ | refine sLen tb ?_ | refine sFd tb ?_ | refine sBd tb ?_ | refine sBa tb ?_); try (first | refine gl tb ?_ | refine gg tb ?_ | refine ll tb ?_ | refine lg tb ?_))
      refine sAd tb ?_
      try (first | refine gl tb ?_ | refine gg tb ?_ | refine ll tb ?_ | refine lg tb ?_); repeat ((first | refine G.condT rfl ?_ | refine G.condF rfl ?_ | refine sFa tb ?_ | refine sLd tb ?_ | refine sLa tb ?_ | refine sLen tb ?_ | refine sFd tb ?_ | refine sBd tb ?_ | refine sBa tb ?_); try (first | refine gl tb ?_ | refine gg tb ?_ | refine ll tb ?_ | refine lg tb ?_))
      exact G.lp (k + 1) (by repeat (first | exact Sub.nil _ | refine Sub.cons rfl ?_)) ⟨(hg3.trans (Grew.ofExt hx4 hxz3)).trans hg5, by omega, _, ho5, by rw [List.length_set]; exact hxl⟩ (by omega)
    · try (first | refine gl tb ?_ | refine gg tb ?_ | refine ll tb ?_ | refine lg tb ?_); repeat ((first | refine G.condT rfl ?_ | refine G.condF rfl ?_ | refine sFa tb ?_ | refine sLd tb ?_ | refine sLa tb ?_ | refine sLen tb ?_ | refine sFd tb ?_ | refine sBd tb ?_ | refine sBa tb ?_); try (first | refine gl tb ?_ | refine gg tb ?_ | refine ll tb ?_ | refine lg tb ?_))
      refine G.ret1 rfl rfl rfl rfl ?_
      exact ⟨rfl, hg3⟩
end Go.Proofs.YtfffblopkaandaaDoor
