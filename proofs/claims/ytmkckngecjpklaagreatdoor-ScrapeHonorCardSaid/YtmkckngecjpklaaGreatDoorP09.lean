/- Where a sample and its target both have a label the sample's stays if the job honors it, else the target's, and the sample's goes on under another name. Conditions: none beyond the statement's own. -/
import Derived.Test.YtmkckngecjpklaaGreatDoorP08
section
open Go Go.Vg Go.RowKit Go.Proofs Go.Proofs.YtmkckngecjpklaaGreatDoor
namespace Go.Proofs.YtmkckngecjpklaaGreatDoor
set_option linter.unusedSimpArgs false
namespace Lab
def clipL (x : Lab) : Lab := (x.1, x.2.take 60)
def setS (ls : List Lab) : List Lab := ((ls.take 10).map clipL).foldl setStep []
set_option maxHeartbeats 1000000 in
theorem setS_ok (v : Value) (ls : List Lab) (w : World) (hv : Labs w v ls) (hz : ∀ x ∈ ls, LabSz x) :
    Ret Tryz.prog 12 ⟨[v]⟩ w fun r w' => LO w' w.heap.size r (setS ls) ∧ Ext w w' := by
  have hbd := Labs.bound hv
  refine ret_of_G Tryz.func12 rfl Tryz.ntmps12 rfl ?_
  simp only [argEnv]
  refine rn ?_
  refine (G.loop (fun x : Nat × Value => [(0, none, v), (3, none, x.2), (4, none, .int .i64 x.1)]) (fun x w' => Ext w w' ∧ x.1 ≤ ls.length ∧ x.1 ≤ 10 ∧ LO w' w.heap.size x.2 (((ls.take x.1).map clipL).foldl setStep [])) (fun x => ls.length - x.1) (0, .slice none 0 0) (by repeat (first | exact Sub.nil _ | refine Sub.cons rfl ?_)) ⟨Ext.refl _, by simp, by simp, Owns.nil _ _ _ _⟩ ?_)
  rintro ⟨k, s⟩ w2 ⟨hx2, hk, hk10, ho⟩
  simp only at hk hk10 ho ⊢
  have hv2 := hv.to hx2
  refine rn ?_
  rw [List.length_map]
  refine rn ?_
  first | refine G.condD rfl (fun hc => ?_) (fun hc => ?_) | refine G.condN rfl (fun hc => ?_) (fun hc => ?_) | refine G.cond rfl (fun hc => ?_) (fun hc => ?_)
  · simp only [Bool.and_eq_true, decide_eq_true_eq] at hc
    have hlt : k < ls.length := by omega
    obtain ⟨x, hmem, hget, htk, -, -⟩ := Labs.at hlt
    have hxz := hz x hmem
    have hsn : ((ls.take (k + 1)).map clipL).foldl setStep [] = setStep (((ls.take k).map clipL).foldl setStep []) (clipL x) := by
      rw [htk, List.map_append, List.map_cons, List.map_nil, setTo_snoc]
    have hlen := setTo_len ((ls.take k).map clipL)
    have hcz : LabSz (clipL x) := ⟨hxz.1, by have := hxz.2; show (x.2.take 60).length ≤ _; rw [List.length_take]; omega⟩
    have hm : ∀ y ∈ ((ls.take k).map clipL).foldl setStep [], LabSz y := fun y hy => by
      obtain ⟨z, h1, rfl⟩ := List.mem_map.1 (setTo_mem hy)
      have hzz := hz z (List.mem_of_mem_take h1)
      exact ⟨hzz.1, by have := hzz.2; show (z.2.take 60).length ≤ _; rw [List.length_take]; omega⟩
    generalize ((ls.take k).map clipL).foldl setStep [] = out at ho hsn hlen hm
    try (first | refine gl tb ?_ | refine gg tb ?_ | refine ll tb ?_ | refine lg tb ?_); repeat ((first | refine G.condT rfl ?_ | refine G.condF rfl ?_ | refine sFa tb ?_ | refine sLd tb ?_ | refine sLa tb ?_ | refine sLen tb ?_ | refine sFd tb ?_ | refine sBd tb ?_ | refine sIa tb k ?_); try (first | refine gl tb ?_ | refine gg tb ?_ | refine ll tb ?_ | refine lg tb ?_))
    refine sAl tb ?_
    intro W3 hb3 hs3 hx3
    refine sSt tb ?_ (vs := labC x) (hv := rfl) (hb := hb3) (h1 := by simp [Value.oneCell', S, labC])
    intro W4 hb4 hw4
    have hx4 : Ext w2 W4 := Below.wr hx3 hw4 (Nat.le_refl _)
    have hsz4 : w2.heap.size < W4.heap.size := hb4.lt
    refine rn ?_
    refine (G.join (fun _ : Unit => [(0, none, v), (3, none, s), (4, none, .int .i64 k), (5, none, ptr w2.heap.size)]) (fun _ w' => Ext w2 w' ∧ Bx w' w2.heap.size (labC (clipL x))) (fun _ W5 hW5 => ?_) ?_)
    rotate_left
    · first | refine G.condD rfl (fun hc => ?_) (fun hc => ?_) | refine G.condN rfl (fun hc => ?_) (fun hc => ?_) | refine G.cond rfl (fun hc => ?_) (fun hc => ?_)
      · refine rn ?_
        refine GL.cons (Step.sliceSh tb 60 rfl (Op1.of rfl (by first | exact fun _ => rfl | exact fun h => h | exact fun h => bL h | exact fun h => bL (bL h) | exact fun h => bL (bL (bL h)))) (Op1.of rfl (by first | exact fun _ => rfl | exact fun h => h | exact fun h => bL h | exact fun h => bL (bL h) | exact fun h => bL (bL (bL h)))) rfl (fun _ => ⟨rfl, by omega⟩) rfl ?_)
        refine rn ?_
        refine sSf tb (fun W5 hb5 hw5 => ?_)
        refine rn ?_
        exact G.met () (by repeat (first | exact Sub.nil _ | refine Sub.cons rfl ?_)) ⟨hx4.wr hw5 (Nat.le_refl _), hb5⟩
      · have hl : clipL x = x := by
          unfold clipL; rw [List.take_of_length_le (by omega)]
        refine rn ?_
        exact G.met () (by repeat (first | exact Sub.nil _ | refine Sub.cons rfl ?_)) ⟨hx4, by rw [hl]; exact hb4⟩
    obtain ⟨hx5, hb5⟩ := hW5
    have hx25 := hx2.trans hx5
    have ho5 := ho.to hx5
    generalize clipL x = y at hsn hcz hb5
    refine rn ?_
    refine G.regionG (Ext W5.drew) mixed (Ext.refl _) ?_
    have hx3 := hx25.drew'
    have ho := ho5.to (Ext.drew W5)
    have hb := hb5.to (Ext.drew W5)
    generalize W5.drew = w3 at *
    refine GD.join [4, 2, 0, 3, 1] (fun x : Value × Value => [(33, none, x.1), (35, none, x.2), (0, none, v), (3, none, s), (4, none, .int .i64 k)]) (fun z w' => Ext w3 w' ∧ LO w' w3.heap.size z.1 out ∧ Labs w' z.2 [y]) ?_ fun meet => ?_
    · rintro ⟨s18, s23⟩ w4 ⟨hx4, ho18, ho23⟩
      simp only at ho18 ho23 ⊢
      have hxw := hx3.trans hx4
      refine GD.steps ([(5, false), (6, false), (7, true), (8, true), (9, true), (10, true), (11, true)]) (by kernel_rfl) (by kernel_rfl) rfl ?_
      refine GM.eff (Step.append tb rfl (Op1.of rfl (by first | exact fun _ => rfl | exact fun h => h | exact fun h => bL h | exact fun h => bL (bL h) | exact fun h => bL (bL (bL h)))) (Op1.of rfl (by first | exact fun _ => rfl | exact fun h => h | exact fun h => bL h | exact fun h => bL (bL h) | exact fun h => bL (bL (bL h)))) rfl rfl rfl (by rfl) (ho18) (ho23) (lab1 [y]) (by simp only [List.length_map, List.length_append, List.length_cons, List.length_nil, List.length_take, List.length_drop]; omega) (by simp only [List.length_map, List.length_append, List.length_cons, List.length_nil, List.length_take, List.length_drop]; omega) (hx4.size) rfl ?_)
      intro s24 w5 ho24 hg5
      have hx5 : Ext w3 w5 := hg5.below _ hx4
      have hx05 := hx3.trans hx5
      refine ⟨hx5, ?_⟩
      have ho24' : LO w5 w3.heap.size s24 (out ++ [y]) := by unfold LO; rw [List.map_append]; exact ho24
      have hm' : ∀ z ∈ out ++ [y], LabSz z := by
        intro z hz
        rcases List.mem_append.1 hz with h | h
        · exact hm z h
        · simp only [List.mem_cons, List.not_mem_nil, or_false] at h; subst h; exact hcz
      refine GM.eff (Step.callF rfl rfl rfl c47 rfl (refNew_ok s24 (out ++ [y]) w5 ho24'.sli (by simp only [List.length_append, List.length_cons, List.length_nil]; omega) hm') ?_)
      rintro r w6 ⟨sN, rfl, hoN, hx6⟩
      refine ⟨hx5.trans hx6, ?_⟩
      refine rd ?_
      refine GM.nil ?_
      refine GD.done (by kernel_rfl) ?_
      refine rn ?_
      have hst : setStep out y = if (newR (out ++ [y])).1 = 0 then (newR (out ++ [y])).2 else out := rfl
      first | refine G.condD rfl (fun hc => ?_) (fun hc => ?_) | refine G.condN rfl (fun hc => ?_) (fun hc => ?_) | refine G.cond rfl (fun hc => ?_) (fun hc => ?_)
      · rw [if_pos hc] at hst
        refine rn ?_
        refine sAd tb ?_
        refine rn ?_
        exact G.lp (x := (k, s)) (k + 1, sN) (by repeat (first | exact Sub.nil _ | refine Sub.cons rfl ?_)) ⟨hx05.trans hx6, by simp only; omega, by simp only; omega, by simp only [hsn, hst]; exact hoN.mono hx05.size⟩ (by simp only; omega)
      · rw [if_neg hc] at hst
        refine rn ?_
        refine sAd tb ?_
        refine rn ?_
        exact G.lp (x := (k, s)) (k + 1, s) (by repeat (first | exact Sub.nil _ | refine Sub.cons rfl ?_)) ⟨hx05.trans hx6, by simp only; omega, by simp only; omega, by simp only [hsn, hst]; exact ho.to (hx5.trans hx6)⟩ (by simp only; omega)
    · refine GD.steps ([(1, true), (3, true)]) (by kernel_rfl) (by kernel_rfl) rfl ?_
      refine rd ?_
      refine GM.nil ?_
      refine GD.two (0) (4) (by kernel_rfl) (by kernel_rfl) rfl rfl ?_ ?_
      · refine (Step.buildSlice tb ([]) rfl rfl rfl rfl rfl rfl (by rfl) rfl (by rfl) (by rfl) (by rfl) (by simp) rfl ?_)
        intro s16 w4 ho16 hs4 hx4
        refine ⟨hx4, ?_⟩
        have ho4 := ho.to hx4
        have hxw := hx3.trans hx4
        refine GD.two (2) (4) (by kernel_rfl) (by kernel_rfl) rfl rfl ?_ ?_
        · refine (Step.append tb rfl (Op1.of rfl (by first | exact fun _ => rfl | exact fun h => h | exact fun h => bL h | exact fun h => bL (bL h) | exact fun h => bL (bL (bL h)))) (Op1.of rfl (by first | exact fun _ => rfl | exact fun h => h | exact fun h => bL h | exact fun h => bL (bL h) | exact fun h => bL (bL (bL h)))) rfl rfl rfl (by rfl) (ho16) (ho4.sli) (lab1 _) (by simp only [List.length_map, List.length_append, List.length_cons, List.length_nil, List.length_take, List.length_drop]; omega) (by simp only [List.length_map, List.length_append, List.length_cons, List.length_nil, List.length_take, List.length_drop]; omega) (hx4.size) rfl ?_)
          intro s18 w5 ho18 hg5
          have hx5 : Ext w3 w5 := hg5.below _ hx4
          refine ⟨hx5, ?_⟩
          refine GD.steps ([(4, false)]) (by kernel_rfl) (by kernel_rfl) rfl ?_
          refine GM.eff (Step.buildSlice tb ([labC y]) rfl rfl rfl rfl rfl rfl (by rfl) rfl (by rfl) (by rfl) (by rfl) (labLen [y]) rfl ?_)
          intro s23 w6 ho23 hs6 hx6
          refine ⟨hx5.trans hx6, ?_⟩
          refine GM.nil ?_
          exact meet (s18, s23) _ _ _ rfl rfl (by repeat (first | exact Sub.nil _ | refine Sub.cons rfl ?_)) ⟨hx5.trans hx6, by simpa using ho18.to hx6, ho23.sli⟩
        · refine (Step.buildSlice tb ([labC y]) rfl rfl rfl rfl rfl rfl (by rfl) rfl (by rfl) (by rfl) (by rfl) (labLen [y]) rfl ?_)
          intro s23 w5 ho23 hs5 hx5
          refine ⟨hx4.trans hx5, ?_⟩
          refine GD.steps ([(2, false)]) (by kernel_rfl) (by kernel_rfl) rfl ?_
          refine GM.eff (Step.append tb rfl (Op1.of rfl (by first | exact fun _ => rfl | exact fun h => h | exact fun h => bL h | exact fun h => bL (bL h) | exact fun h => bL (bL (bL h)))) (Op1.of rfl (by first | exact fun _ => rfl | exact fun h => h | exact fun h => bL h | exact fun h => bL (bL h) | exact fun h => bL (bL (bL h)))) rfl rfl rfl (by rfl) (ho16.to hx5) (ho4.sli.to hx5) (lab1 _) (by simp only [List.length_map, List.length_append, List.length_cons, List.length_nil, List.length_take, List.length_drop]; omega) (by simp only [List.length_map, List.length_append, List.length_cons, List.length_nil, List.length_take, List.length_drop]; omega) ((hx4.trans hx5).size) rfl ?_)
          intro s18 w6 ho18 hg6
          have hx6 := hg6.below _ (hx4.trans hx5)
          refine ⟨hx6, ?_⟩
          refine GM.nil ?_
          exact meet (s18, s23) _ _ _ rfl rfl (by repeat (first | exact Sub.nil _ | refine Sub.cons rfl ?_)) ⟨hx6, by simpa using ho18, (ho23.grew hg6 (ho16.apart ho23)).sli⟩
      · refine (Step.buildSlice tb ([labC y]) rfl rfl rfl rfl rfl rfl (by rfl) rfl (by rfl) (by rfl) (by rfl) (labLen [y]) rfl ?_)
        intro s23 w4 ho23 hs4 hx4
        refine ⟨hx4, ?_⟩
        refine GD.steps ([(0, false), (2, false)]) (by kernel_rfl) (by kernel_rfl) rfl ?_
        refine GM.eff (Step.buildSlice tb ([]) rfl rfl rfl rfl rfl rfl (by rfl) rfl (by rfl) (by rfl) (by rfl) (by simp) rfl ?_)
        intro s16 w5 ho16 hs5 hx5
        have hx45 := hx4.trans hx5
        refine ⟨hx45, ?_⟩
        refine GM.eff (Step.append tb rfl (Op1.of rfl (by first | exact fun _ => rfl | exact fun h => h | exact fun h => bL h | exact fun h => bL (bL h) | exact fun h => bL (bL (bL h)))) (Op1.of rfl (by first | exact fun _ => rfl | exact fun h => h | exact fun h => bL h | exact fun h => bL (bL h) | exact fun h => bL (bL (bL h)))) rfl rfl rfl (by rfl) (ho16) ((ho.to hx45).sli) (lab1 _) (by simp only [List.length_map, List.length_append, List.length_cons, List.length_nil, List.length_take, List.length_drop]; omega) (by simp only [List.length_map, List.length_append, List.length_cons, List.length_nil, List.length_take, List.length_drop]; omega) (hx5.size) rfl ?_)
        intro s18 w6 ho18 hg6
        have hx6 := hg6.below _ hx5
        refine ⟨hx4.trans hx6, ?_⟩
        refine GM.nil ?_
        exact meet (s18, s23) _ _ _ rfl rfl (by repeat (first | exact Sub.nil _ | refine Sub.cons rfl ?_)) ⟨hx4.trans hx6, by simpa using ho18.mono hx4.size, (ho23.to hx6).sli⟩
  · simp only [Bool.and_eq_false_iff, decide_eq_false_iff_not] at hc
    have e : ls.take k = ls.take 10 := by
      rcases hc with h | h
      · rw [List.take_of_length_le (by omega), List.take_of_length_le (by omega)]
      · rw [show k = 10 by omega]
    rw [e] at ho
    refine rn ?_
    refine G.ret1 rfl rfl rfl rfl ?_
    exact ⟨ho, hx2⟩
end Lab
end Go.Proofs.YtmkckngecjpklaaGreatDoor
end
section
open Go Go.Vg Go.RowKit Go.Proofs Go.Proofs.YtmkckngecjpklaaGreatDoor
namespace Go.Proofs.YtmkckngecjpklaaGreatDoor
set_option linter.unusedSimpArgs false

def wx1 : List UInt8 := [40, 46, 42, 41, 45, 40, 46, 42, 41]
def tx1 : Rx.T := .seq [.grp 1 (.seq [.rep 0 (-1) false false (.set [] true)]), .set [(45, 45)] false, .grp 2 (.seq [.rep 0 (-1) false false (.set [] true)])]
theorem comp_wx1 : Rx.comp wx1 = .ok (tx1, 2) := by rfl
def rw0 : Rule := ⟨1, [[97], [98]], [45], wx1, 0, [99], [36, 50, 36, 49]⟩
def wl0 : List Lab.Lab := [([97], [49]), ([98], [50])]
def wl1 : List Lab.Lab := [([97], [49]), ([98], [50]), ([99], [50, 49])]
theorem rule_w0 : ruleR wl0 rw0 tx1 2 = (wl1, true) := by decide +kernel
theorem rule_w1 : ruleR wl1 rw0 tx1 2 = (wl1, true) := by decide +kernel
theorem right_w : rightR rw0 = true := by decide +kernel
theorem rw0_sz : RuleSz rw0 := ⟨by decide, fun s hs => by
  simp only [rw0, List.mem_cons, List.not_mem_nil, or_false] at hs
  rcases hs with rfl | rfl <;> (show _ ≤ _; decide), by decide, by decide, by decide, by decide⟩
theorem rw0_ok (w : World) (sv : Value) (hu : Srcs w rw0 sv) (hT : Tabs w) : RuleOk (fun r ls => ruleR ls r tx1 2) (fun ls => ls = wl0 ∨ ls = wl1) w (rw0, sv) := by
  intro W v cur _ hx hi hv
  refine ⟨rule_okR v sv cur rw0 tx1 2 W hv ?_ ?_ (hu.to hx) rw0_sz comp_wx1 (.inl rfl) ?_ (hT.to hx), fun _ => ?_⟩
  · rcases hi with rfl | rfl <;> (unfold Lab.sortedL; decide +kernel)
  · rcases hi with rfl | rfl <;> decide
  · rcases hi with rfl | rfl <;> decide +kernel
  · rcases hi with rfl | rfl
    · exact .inr (show (ruleR wl0 rw0 tx1 2).1 = wl1 by rw [rule_w0])
    · exact .inr (show (ruleR wl1 rw0 tx1 2).1 = wl1 by rw [rule_w1])
theorem due_w : Sc.due 3 10 0 20 = some 13 := by decide +kernel
set_option maxHeartbeats 1000000 in
theorem wakes_okS (w : World) (hT : Tabs w) : Ret Tryz.prog 16 ⟨[]⟩ w fun r w' => r = .bool true ∧ Ext w w' := by
  refine ret_of_G Tryz.func16 rfl Tryz.ntmps16 rfl ?_
  simp only [argEnv]
  refine rn ?_
  refine sBs' tb (wl0.map Lab.labC) (fun u1 W1 ho1 hs1 hx1 => ?_) (hkl := Lab.labLen wl0)
  refine rn ?_
  refine sBs' tb ([[97], [98]].map strC) (fun u2 W2 ho2 hs2 hx2 => ?_) (hkl := by simp [strC])
  obtain ⟨a2, c2, rfl, -⟩ := ho2.sli.len
  refine rn ?_
  refine sBs' tb ([(rw0, Value.slice a2 2 c2)].map relC2) (fun u3 W3 ho3 hs3 hx3 => ?_) (hfill := by kernel_rfl) (hkl := by simp [relC2, relC])
  refine rn ?_
  have hx13 := hx2.trans hx3
  have hx03 := hx1.trans hx13
  have hu2 : Srcs W3 rw0 (.slice a2 2 c2) := (ho2.to hx3).sli
  have hrel := relabel_ok (fun r ls => ruleR ls r tx1 2) (fun ls => ls = wl0 ∨ ls = wl1) u1 u3 wl0 [(rw0, .slice a2 2 c2)] W3 (ho1.to hx13).sli (.inl rfl) (by decide) ho3.sli (fun p hp => by
      simp only [List.mem_cons, List.not_mem_nil, or_false] at hp
      subst hp
      exact ⟨hu2, rw0_sz, rw0_ok W3 _ hu2 (hT.to hx03)⟩) (hT.to hx03)
  refine sCall c32 (hrel) ?_
  rintro _ W4 ⟨u, rfl, hl4, hx4⟩
  have e : relF (fun r ls => ruleR ls r tx1 2) ([(rw0, Value.slice a2 2 c2)].map (·.1)) wl0 = (wl1, true) := by
    simp only [List.map_cons, List.map_nil, relF, right_w, if_true, rule_w0]
  simp only [e] at hl4 ⊢
  refine rn ?_
  refine sCall c56 (due_ok (S []) (.slice none 0 0) (S []) 3 10 0 20 W4 (by decide) (by decide) (by decide)) ?_
  rintro _ W5 ⟨rfl, hx5⟩
  rw [due_w]
  simp only [dueV]
  have hl5 : Lab.Labs W5 u wl1 := (Owns.to hl4 hx5).sli
  have hg2 : (wl1.map Lab.labC)[2]? = some (Lab.labC ([99], [50, 49])) := rfl
  try (first | refine gl tb ?_ | refine gg tb ?_ | refine ll tb ?_ | refine lg tb ?_); repeat ((first | refine G.condT rfl ?_ | refine G.condF rfl ?_ | refine sFa tb ?_ | refine sLd tb ?_ | refine sLa tb ?_ | refine sLen tb ?_ | refine sFd tb ?_ | refine sBd tb ?_ | refine sIa tb 2 ?_); try (first | refine gl tb ?_ | refine gg tb ?_ | refine ll tb ?_ | refine lg tb ?_))
  refine G.ret1 rfl rfl rfl rfl ?_
  exact ⟨rfl, (hx03.trans hx4).trans hx5⟩
end Go.Proofs.YtmkckngecjpklaaGreatDoor
end
section
namespace Go.Rx
/-- not yet come to -/
def fr (x : List UInt8) (r : Rs) (p q : Nat) : Prop := r.seen[p * (x.length + 1) + q]? = some false
end Go.Rx
end
section
open Go Go.Vg Go.RowKit Go.Proofs Go.Proofs.YtmkckngecjpklaaGreatDoor
namespace Go.Proofs.YtmkckngecjpklaaGreatDoor
set_option linter.unusedSimpArgs false

namespace Lab
theorem setS_right (ls : List Lab) : rightB (setS ls) = true := by
  unfold setS
  suffices h : ∀ (l : List Lab) (s : List Lab), rightB s = true → rightB (l.foldl setStep s) = true from h _ [] (by decide)
  intro l
  induction l with
  | nil => intro s h; exact h
  | cons a r ih =>
    intro s h
    refine ih _ ?_
    unfold setStep
    split
    · rename_i h0
      exact newR_right (ls := s ++ [a]) (Prod.ext h0 rfl)
    · exact h
theorem split_mem {ls : List Lab} {x : Lab} (h : riseL ls) (hx : x ∈ ls) : ∃ A B, ls = A ++ x :: B ∧ (∀ y ∈ A, Op.bytesLess y.1 x.1 = true) ∧ (∀ y ∈ B, Op.bytesLess x.1 y.1 = true) := by
  obtain ⟨A, B, rfl⟩ := List.append_of_mem hx
  unfold riseL at h
  rw [List.pairwise_append] at h
  refine ⟨A, B, rfl, fun y hy => h.2.2 y hy x (by simp), fun y hy => ?_⟩
  have := h.2.1
  rw [List.pairwise_cons] at this
  exact this.1 y hy
theorem get_mem {ls : List Lab} {x : Lab} (h : riseL ls) (hx : x ∈ ls) : getL ls x.1 = x.2 := by
  obtain ⟨A, B, rfl, hA, hB⟩ := split_mem h hx
  clear h hx
  induction A with
  | nil => simp [getL]
  | cons a A ih =>
    have := hA a (by simp)
    have hne : a.1 ≠ x.1 := fun e => by rw [e, bl_irrefl] at this; cases this
    simp only [List.cons_append, getL, if_neg hne]
    exact ih fun y hy => hA y (by simp [hy])
end Lab
theorem fair_bad {x : Lab.Lab} (h : Lab.fairB x = true) : badP x.1 x.2 = false := by
  rw [← Lab.okB_fair] at h
  unfold Lab.okB at h
  split at h
  · cases h
  · rename_i h2
    unfold badP
    simp only [Bool.or_eq_true, Bool.not_eq_true', decide_eq_true_eq, not_or, Bool.not_eq_false] at h2
    obtain ⟨⟨a, b⟩, c⟩ := h2
    rw [a, c, decide_eq_false b]
    simp only [Bool.or_eq_true, Bool.not_eq_true', decide_eq_true_eq, decide_eq_false_iff_not] at h
    rcases h with (h | h) | h
    · simp [h]
    · simp [h]
    · simp [h]
theorem right_len {ls : List Lab.Lab} (h : Lab.rightB ls = true) : ls.length ≤ 64 := (Lab.right_fair h).2
theorem right_sorted {ls : List Lab.Lab} (h : Lab.rightB ls = true) : Lab.sortedL ls := Lab.rise_sorted (Lab.right_rise h)
end Go.Proofs.YtmkckngecjpklaaGreatDoor
end
section
open Go Go.Vg Go.RowKit Go.Proofs Go.Proofs.YtmkckngecjpklaaGreatDoor
namespace Go.Proofs.YtmkckngecjpklaaGreatDoor
set_option linter.unusedSimpArgs false
namespace Num

def rngC (a b : Int) (c : UInt8) : Bool := decide (a ≤ c.toNat) && decide ((c.toNat : Int) ≤ b)
theorem drop_at {s : List UInt8} {k : Nat} (h : k < s.length) : s.drop k = s.getD k 0 :: s.drop (k + 1) := by
  rw [List.drop_eq_getElem_cons h]; simp [List.getD, h]
theorem all_take {p : UInt8 → Bool} {s : List UInt8} {k : Nat} (h : k < s.length) (ha : (s.take k).all p = true) : (s.take (k + 1)).all p = p (s.getD k 0) := by
  rw [List.take_succ_eq_append_getElem h, List.all_append, ha]
  simp [List.getD, h]
abbrev dig (c : UInt8) : Bool := rngC 48 57 c
theorem numDigit_ok (c : UInt8) (w : World) : Ret Tryz.prog 150 ⟨[U c]⟩ w fun r w' => r = .bool (dig c) ∧ w' = w := by
  refine ret_of_G Tryz.func150 rfl Tryz.ntmps150 rfl ?_
  simp only [argEnv]
  refine rn ?_
  refine G.ret1 rfl rfl rfl rfl ?_
  exact ⟨rfl, rfl⟩
/-- how many digits a text begins with -/
def runP (s : List UInt8) : Nat := (s.takeWhile dig).length
theorem runP_at {s : List UInt8} {k : Nat} (hk : k ≤ s.length) (ha : (s.take k).all dig = true) (he : ¬ (k < s.length) ∨ dig (s.getD k 0) = false) : runP s = k := by
  have e : s = s.take k ++ s.drop k := (List.take_append_drop k s).symm
  have ha' : ∀ a ∈ s.take k, dig a = true := by simpa using ha
  unfold runP
  rw [e, List.takeWhile_append_of_pos ha', List.length_append, List.length_take, Nat.min_eq_left hk]
  have : (s.drop k).takeWhile dig = [] := by
    rcases he with h | h
    · rw [List.drop_of_length_le (by omega)]; rfl
    · by_cases hlt : k < s.length
      · rw [drop_at hlt, List.takeWhile_cons, h]; rfl
      · rw [List.drop_of_length_le (by omega)]; rfl
  rw [this]; rfl
theorem run_ok (s : List UInt8) (w : World) (hs : s.length ≤ 9223372036854775806) : Ret Tryz.prog 75 ⟨[S s]⟩ w fun r w' => r = .int .i64 (runP s) ∧ w' = w := by
  refine ret_of_G Tryz.func75 rfl Tryz.ntmps75 rfl ?_
  simp only [argEnv]
  refine rn ?_
  refine (G.loop (fun k : Nat => [(0, none, S s), (3, none, .int .i64 k)]) (fun k w' => w' = w ∧ k ≤ s.length ∧ (s.take k).all dig = true) (fun k => s.length - k) 0 (by repeat (first | exact Sub.nil _ | refine Sub.cons rfl ?_)) ⟨rfl, by omega, by simp⟩ ?_)
  rintro k w1 ⟨rfl, hk, hall⟩
  refine rn ?_
  refine sBs tb k ?_
  refine sCallq c150 (fun _ => numDigit_ok _ w1) ?_
  refine rn ?_
  first | refine G.condD rfl (fun hc => ?_) (fun hc => ?_) | refine G.condN rfl (fun hc => ?_) (fun hc => ?_) | refine G.cond rfl (fun hc => ?_) (fun hc => ?_)
  · simp only [Bool.and_eq_true, decide_eq_true_eq] at hc
    obtain ⟨h1, h2⟩ := hc
    have hlt : k < s.length := by omega
    refine rn ?_
    refine sAd tb ?_
    refine rn ?_
    exact G.lp (k + 1) (by repeat (first | exact Sub.nil _ | refine Sub.cons rfl ?_)) ⟨rfl, by omega, by rw [all_take hlt hall, h2]⟩ (by omega)
  · have hr := runP_at hk hall (by
      simp only [Bool.and_eq_false_iff, decide_eq_false_iff_not] at hc
      rcases hc with h | h
      · exact .inl (by omega)
      · exact .inr h)
    refine rn ?_
    refine G.ret1 rfl rfl rfl rfl ?_
    exact ⟨by rw [hr], rfl⟩
def restP (s : List UInt8) : List UInt8 := if Lib.hasPrefix s [45] = true then s.drop 1 else s
def badP (s : List UInt8) : Bool := (decide (restP s = []) || !decide ((runP (restP s) : Int) = (restP s).length)) || (decide (((restP s).getD 0 0).toNat = (48 : Int)) && !decide (s = [48]))
end Num
end Go.Proofs.YtmkckngecjpklaaGreatDoor
end
section
open Go Go.Vg Go.RowKit Go.Proofs Go.Proofs.YtmkckngecjpklaaGreatDoor
namespace Go.Proofs.YtmkckngecjpklaaGreatDoor
set_option linter.unusedSimpArgs false

namespace Num
theorem tw_all {p : UInt8 → Bool} : ∀ (l : List UInt8), (∀ b ∈ l, p b = true) → l.takeWhile p = l
  | [], _ => rfl
  | b :: r, h => by rw [List.takeWhile_cons, h b (by simp), if_pos rfl, tw_all r fun c hc => h c (by simp [hc])]
end Num
namespace Lab
theorem get_app {A B : List Lab} {n : List UInt8} (h : ∀ y ∈ A, y.1 ≠ n) : getL (A ++ B) n = getL B n := by
  induction A with
  | nil => rfl
  | cons a r ih =>
    simp only [List.cons_append, getL]
    rw [if_neg (h a (by simp))]
    exact ih fun y hy => h y (by simp [hy])
theorem get_with {ls : List Lab} {n v : List UInt8} (hv : v ≠ []) : getL (withS ls n v) n = v := by
  unfold withS
  rw [if_neg hv]
  unfold putL
  rw [get_app]
  · simp [getL]
  · intro y hy e
    have := List.all_eq_true.1 (List.all_takeWhile (p := fun y : Lab => Op.bytesLess y.1 n)) y hy
    rw [e] at this
    simp [bl_irrefl] at this
theorem with_len (ls : List Lab) (n v : List UInt8) : (withS ls n v).length ≤ ls.length + 1 := by
  have h1 : (woL ls n).length ≤ ls.length := by
    unfold woL pickL
    exact List.length_filter_le _ _
  unfold withS
  split
  · omega
  · unfold putL
    have := congrArg List.length (List.takeWhile_append_dropWhile (p := fun y : Lab => Op.bytesLess y.1 n) (l := woL ls n))
    rw [List.length_append] at this
    rw [List.length_append, List.length_cons]
    simp only at this ⊢
    omega
end Lab
theorem with_mem {ls : List Lab.Lab} {n v : List UInt8} {x : Lab.Lab} (h : x ∈ Lab.withS ls n v) : x ∈ ls ∨ x = (n, v) := by
  have hw : ∀ y, y ∈ Lab.woL ls n → y ∈ ls := fun y hy => by
    unfold Lab.woL Lab.pickL at hy
    exact (List.mem_filter.1 hy).1
  unfold Lab.withS at h
  split at h
  · exact .inl (hw _ h)
  · unfold Lab.putL at h
    rcases List.mem_append.1 h with h | h
    · exact .inl (hw _ ((List.takeWhile_sublist _).subset h))
    · rcases List.mem_cons.1 h with h | h
      · exact .inr h
      · exact .inl (hw _ ((List.dropWhile_sublist _).subset h))
theorem with_sorted {ls : List Lab.Lab} {n v : List UInt8} (h : Lab.sortedL ls) : Lab.sortedL (Lab.withS ls n v) := by
  have hw : Lab.sortedL (Lab.woL ls n) := by
    unfold Lab.woL Lab.pickL Lab.sortedL
    exact List.Pairwise.sublist List.filter_sublist h
  unfold Lab.withS
  split
  · exact hw
  · exact Lab.putL_sorted hw
end Go.Proofs.YtmkckngecjpklaaGreatDoor
end
section
open Go Go.Vg Go.RowKit Go.Proofs Go.Proofs.YtmkckngecjpklaaGreatDoor
namespace Go.Proofs.YtmkckngecjpklaaGreatDoor
set_option linter.unusedSimpArgs false
open Go.Lib Go.Shelf Go.ChangeShapes Go.WideShapes Go.ChangeAt
theorem open_lab1 {H : Type} {enc : TypeId × Value → H} {w : World} {sp : Nat → Bool} {hd : Bool} {b n : Nat} {v : Value} {x : DataW H × List MemPlace}
    (hval : OkW Tryz.prog w b 23 v) (h : DataW.trod enc Tryz.prog w 0 sp hd n 23 [v] = some x) : ∃ ls : List Lab.Lab, Lab.Labs w v ls ∧ ∀ x ∈ ls, Lab.LabSz x := by
  refine open_rows1 (t := 23) (e := 78) Lab.labC Lab.LabSz (tb.ok _ _ rfl) (by kernel_rfl) (fun n cs x hx => ?_) hval h
  obtain ⟨u0, u1, n, y0, y1, rfl, k0, k1⟩ := open_st2 (tb.ok _ _ rfl) (by kernel_rfl) rfl rfl (by kernel_rfl) (by kernel_rfl) hx
  obtain ⟨a, ha, hla⟩ := open_str (tb.ok _ _ rfl) k0
  obtain ⟨c, hc, hlc⟩ := open_str (tb.ok _ _ rfl) k1
  cases ha; cases hc
  exact ⟨(a, c), rfl, hla, hlc⟩
end Go.Proofs.YtmkckngecjpklaaGreatDoor
end
section
open Go Go.Vg Go.RowKit Go.Proofs Go.Proofs.YtmkckngecjpklaaGreatDoor
namespace Go.Proofs.YtmkckngecjpklaaGreatDoor
set_option linter.unusedSimpArgs false

namespace Lab
theorem get_wo {n m : List UInt8} (h : m ≠ n) : ∀ (ls : List Lab), getL (woL ls n) m = getL ls m := by
  intro ls
  unfold woL pickL
  induction ls with
  | nil => rfl
  | cons x r ih =>
    rw [List.filter_cons]
    by_cases e : x.1 = n
    · rw [if_neg (by simp [e]), ih]
      simp only [getL]
      rw [if_neg (by rw [e]; exact fun e => h e.symm)]
    · rw [if_pos (by simp [e])]
      simp only [getL]
      split
      · rfl
      · exact ih
theorem get_wo_self (ls : List Lab) (n : List UInt8) : getL (woL ls n) n = [] := by
  refine get_none fun h => ?_
  obtain ⟨x, hx, e⟩ := List.mem_map.1 h
  unfold woL pickL at hx
  have := (List.mem_filter.1 hx).2
  simp [e] at this
theorem get_mid {n v m : List UInt8} (h : m ≠ n) : ∀ (A B : List Lab), getL (A ++ (n, v) :: B) m = getL (A ++ B) m
  | [], B => by
    simp only [List.nil_append, getL]
    rw [if_neg (fun e => h e.symm)]
  | a :: A, B => by
    simp only [List.cons_append, getL]
    split
    · rfl
    · exact get_mid h A B
theorem get_withS (ls : List Lab) (n v m : List UInt8) : getL (withS ls n v) m = if m = n then v else getL ls m := by
  by_cases e : m = n
  · subst e
    rw [if_pos rfl]
    by_cases hv : v = []
    · subst hv
      unfold withS
      rw [if_pos rfl, get_wo_self]
    · exact get_with hv
  · rw [if_neg e]
    unfold withS
    split
    · exact get_wo e ls
    · unfold putL
      rw [get_mid e, List.takeWhile_append_dropWhile, get_wo e]
/-- names of a set whose values are all there -/
theorem get_iff {ls : List Lab} (h : ∀ x ∈ ls, x.2 ≠ []) (n : List UInt8) : getL ls n ≠ [] ↔ n ∈ ls.map (·.1) := by
  constructor
  · intro h2
    apply Classical.byContradiction
    intro h3
    exact h2 (get_none h3)
  · intro h2
    induction ls with
    | nil => simp at h2
    | cons x r ih =>
      simp only [getL]
      split
      · exact h x (by simp)
      · rename_i hne
        rw [List.map_cons, List.mem_cons] at h2
        rcases h2 with h2 | h2
        · exact absurd h2.symm hne
        · exact ih (fun y hy => h y (by simp [hy])) h2
theorem wo_len {n : List UInt8} : ∀ {ls : List Lab}, (ls.map (·.1)).Nodup → (woL ls n).length + (if n ∈ ls.map (·.1) then 1 else 0) = ls.length
  | [], _ => by simp [woL, pickL]
  | x :: r, h => by
    rw [List.map_cons, List.nodup_cons] at h
    have ih := wo_len (n := n) h.2
    unfold woL pickL at ih ⊢
    rw [List.filter_cons]
    by_cases e : x.1 = n
    · rw [if_neg (by simp [e])]
      have h1 := h.1
      rw [e] at h1
      rw [if_neg h1] at ih
      rw [if_pos (by simp [e])]
      simp only [List.length_cons]
      omega
    · rw [if_pos (by simp [e]), List.length_cons, List.length_cons]
      have : (n ∈ (x :: r).map (·.1)) ↔ n ∈ r.map (·.1) := by
        rw [List.map_cons, List.mem_cons]
        exact ⟨fun h => h.resolve_left (fun e2 => e e2.symm), .inr⟩
      simp only [this]
      omega
theorem with_len2 (ls : List Lab) (n v : List UInt8) (hv : v ≠ []) : (withS ls n v).length = (woL ls n).length + 1 := by
  unfold withS
  rw [if_neg hv]
  unfold putL
  have := congrArg List.length (List.takeWhile_append_dropWhile (p := fun y : Lab => Op.bytesLess y.1 n) (l := woL ls n))
  rw [List.length_append] at this
  rw [List.length_append, List.length_cons]
  simp only at this ⊢
  omega
theorem wo_right {ls : List Lab} (h : rightB ls = true) (n : List UInt8) : rightB (woL ls n) = true := right_pick h _ _
/-- a label that may be there is put into a set -/
theorem with_right {ls : List Lab} {n v : List UInt8} (h : rightB ls = true) (hf : fairB (n, v) = true) (hv : v ≠ []) (hl : (withS ls n v).length ≤ 64) : rightB (withS ls n v) = true := by
  have hw := wo_right h n
  have hr := right_rise hw
  have hs := rise_sorted hr
  have hdw := dw_sorted (x := (n, v)) hs
  have hne : ∀ y ∈ woL ls n, y.1 ≠ n := fun y hy e => by
    unfold woL pickL at hy
    have := (List.mem_filter.1 hy).2
    simp [e] at this
  have hm : ∀ x ∈ withS ls n v, fairB x = true ∧ x.2 ≠ [] := fun x hx => by
    rcases with_mem hx with hx | rfl
    · exact (right_fair h).1 x hx
    · exact ⟨hf, hv⟩
  refine rise_right hm ?_ hl
  unfold withS
  rw [if_neg hv]
  unfold putL riseL
  have hr2 := hr
  unfold riseL at hr2
  rw [← List.takeWhile_append_dropWhile (p := fun y : Lab => Op.bytesLess y.1 n) (l := woL ls n), List.pairwise_append] at hr2
  have hA : ∀ y ∈ (woL ls n).takeWhile (fun y => Op.bytesLess y.1 n), Op.bytesLess y.1 n = true := fun y hy => List.all_eq_true.1 (List.all_takeWhile (p := fun y : Lab => Op.bytesLess y.1 n)) y hy
  have hB : ∀ y ∈ (woL ls n).dropWhile (fun y => Op.bytesLess y.1 n), Op.bytesLess n y.1 = true := fun y hy => by
    have h1 := hdw y hy
    have h2 := hne y ((List.dropWhile_sublist _).subset hy)
    rcases bl_not h1 with e | e
    · exact absurd e.symm (fun e => h2 (by first | exact e | exact e.symm))
    · exact e
  rw [List.pairwise_append, List.pairwise_cons]
  refine ⟨hr2.1, ⟨hB, hr2.2.1⟩, ?_⟩
  intro a ha b hb
  rcases List.mem_cons.1 hb with rfl | hb
  · exact hA a ha
  · exact hr2.2.2 a ha b hb
theorem right_nodup {ls : List Lab} (h : rightB ls = true) : (ls.map (·.1)).Nodup := rise_nodup (right_rise h)
theorem right_get {ls : List Lab} (h : rightB ls = true) (n : List UInt8) : getL ls n ≠ [] ↔ n ∈ ls.map (·.1) := get_iff (fun x hx => ((right_fair h).1 x hx).2) n
end Lab
end Go.Proofs.YtmkckngecjpklaaGreatDoor
end
section
open Go Go.Vg Go.RowKit Go.Proofs Go.Proofs.YtmkckngecjpklaaGreatDoor
namespace Go.Proofs.YtmkckngecjpklaaGreatDoor
set_option linter.unusedSimpArgs false

/-- the word that stands ahead of a name that a target has, too -/
def expS : List UInt8 := [101, 120, 112, 111, 114, 116, 101, 100, 95]
def takenB (l t : List Lab.Lab) (n : List UInt8) : Bool := !decide (Lab.getL l n = []) || !decide (Lab.getL t n = [])
def freeL (l t : List Lab.Lab) : Nat → List UInt8 → List UInt8
  | 0, n => n
  | f + 1, n => if takenB l t n = true then freeL l t f (expS ++ n) else n
def expStep (t : List Lab.Lab) (l : List Lab.Lab) (x : Lab.Lab) : List Lab.Lab :=
  if Lab.getL t x.1 = [] then l
  else if Lab.namedB false (freeL l t 1100 x.1) = true then Lab.withS (Lab.withS l x.1 []) (freeL l t 1100 x.1) x.2 else l
def exportedL (x t : List Lab.Lab) : List Lab.Lab := x.foldl (expStep t) x
theorem taken_iff {l t : List Lab.Lab} {n : List UInt8} : takenB l t n = true ↔ Lab.getL l n ≠ [] ∨ Lab.getL t n ≠ [] := by
  unfold takenB
  simp only [Bool.or_eq_true, Bool.not_eq_true', decide_eq_false_iff_not, ne_eq]
theorem exp_len (n : List UInt8) : (expS ++ n).length = n.length + 9 := by rw [List.length_append]; show 9 + _ = _; omega
theorem free_spec {l t : List Lab.Lab} {M : Nat} (hl : ∀ y, takenB l t y = true → y.length ≤ M) : ∀ (f : Nat) (n : List UInt8), M + 1 ≤ f + n.length →
    takenB l t (freeL l t f n) = false ∧ (freeL l t f n = n ∨ ((∃ s, freeL l t f n = expS ++ s) ∧ (freeL l t f n).length ≤ M + 9))
  | 0, n, h => by
    refine ⟨?_, .inl rfl⟩
    show takenB l t n = false
    rcases ht : takenB l t n with _ | _
    · rfl
    · have := hl n ht; omega
  | f + 1, n, h => by
    simp only [freeL]
    split
    · rename_i ht
      have hn := hl n ht
      have ih := free_spec hl f (expS ++ n) (by rw [exp_len]; omega)
      refine ⟨ih.1, .inr ?_⟩
      rcases ih.2 with e | e
      · exact ⟨⟨n, e⟩, by rw [e, exp_len]; omega⟩
      · exact e
    · rename_i ht
      exact ⟨by simpa using ht, .inl rfl⟩
theorem free_len {l t : List Lab.Lab} : ∀ (f : Nat) (n : List UInt8), n.length ≤ (freeL l t f n).length
  | 0, n => Nat.le_refl _
  | f + 1, n => by
    simp only [freeL]
    split
    · have := free_len (l := l) (t := t) f (expS ++ n)
      rw [exp_len] at this
      omega
    · exact Nat.le_refl _
theorem exp_named {n : List UInt8} (h : Lab.namedB false n = true) (hl : n.length + 9 ≤ 1024) : Lab.namedB false (expS ++ n) = true := by
  unfold Lab.namedB at h ⊢
  simp only [Bool.and_eq_true, decide_eq_true_eq, Bool.not_eq_true', decide_eq_false_iff_not] at h ⊢
  refine ⟨fun i hi => ?_, by simp [expS], by rw [exp_len]; omega⟩
  rw [exp_len] at hi
  by_cases h9 : i < 9
  · have e : (expS ++ n).getD i 0 = expS.getD i 0 := by
      rw [List.getD_eq_getElem?_getD, List.getElem?_append_left (by show i < 9; omega), ← List.getD_eq_getElem?_getD]
    rw [e]
    have : ∀ i, i < 9 → Lab.namedC false i (expS.getD i 0) = true := by decide
    exact this i h9
  · have e : (expS ++ n).getD i 0 = n.getD (i - 9) 0 := by
      rw [List.getD_eq_getElem?_getD, List.getElem?_append_right (by show 9 ≤ i; omega), ← List.getD_eq_getElem?_getD]
      rfl
    rw [e]
    have := h.1 (i - 9) (by omega)
    unfold Lab.namedC at this ⊢
    simp only [Bool.or_eq_true, Bool.and_eq_true, decide_eq_true_eq] at this ⊢
    rcases this with h1 | ⟨h1, h2⟩
    · exact .inl h1
    · exact .inr ⟨h1, by omega⟩
theorem free_named {l t : List Lab.Lab} : ∀ (f : Nat) (n : List UInt8), Lab.namedB false n = true → (freeL l t f n).length ≤ 1024 → Lab.namedB false (freeL l t f n) = true
  | 0, _, h, _ => h
  | f + 1, n, h, hl => by
    simp only [freeL] at hl ⊢
    split at hl
    · rename_i ht
      rw [if_pos ht]
      have h2 := free_len (l := l) (t := t) f (expS ++ n)
      rw [exp_len] at h2
      exact free_named f _ (exp_named h (by omega)) hl
    · rename_i ht
      rw [if_neg ht]; exact h
theorem free_two {l t : List Lab.Lab} {f : Nat} {n : List UInt8} (h : takenB l t n = true) : takenB l t (expS ++ n) = true ∨ freeL l t (f + 2) n = expS ++ n := by
  rcases h2 : takenB l t (expS ++ n) with _ | _
  · right
    simp only [freeL]
    rw [if_pos h, if_neg (by rw [h2]; simp)]
  · exact .inl rfl
/-- how far a set's labels have gone on -/
structure Gone (x t done rest l : List Lab.Lab) : Prop where
  right : Lab.rightB l = true
  len : l.length = x.length
  names : ∀ y ∈ l, y.1.length ≤ 900 + 9 * done.length
  left : ∀ y ∈ rest, Lab.getL l y.1 = y.2
  apart : ∀ m, Lab.getL t m ≠ [] → Lab.getL l m ≠ [] → m ∈ rest.map (·.1)
  kept : ∀ y ∈ x, Lab.getL t y.1 = [] → Lab.getL l y.1 = y.2
  told : ∀ y ∈ done, Lab.getL t y.1 ≠ [] → Lab.getL l (expS ++ y.1) ≠ [] ∨ Lab.getL t (expS ++ y.1) ≠ []
theorem Gone.step {x t done rest l : List Lab.Lab} {y : Lab.Lab} (hx : Lab.rightB x = true) (hn : x.length ≤ 10) (ht : ∀ m, Lab.getL t m ≠ [] → m.length ≤ 900) (hxe : x = done ++ y :: rest) (h : Gone x t done (y :: rest) l) :
    Gone x t (done ++ [y]) rest (expStep t l y) := by
  have hym : y ∈ x := by rw [hxe]; simp
  have hfy := (Lab.right_fair hx).1 y hym
  have hval : ∀ z ∈ x, z.2 ≠ [] := fun z hz => ((Lab.right_fair hx).1 z hz).2
  have hdl : done.length ≤ 9 := by
    have := congrArg List.length hxe
    rw [List.length_append, List.length_cons] at this
    omega
  have hly := h.left y (by simp)
  by_cases h0 : Lab.getL t y.1 = []
  · have e : expStep t l y = l := by unfold expStep; rw [if_pos h0]
    rw [e]
    refine ⟨h.right, h.len, fun z hz => by have := h.names z hz; simp only [List.length_append, List.length_cons, List.length_nil]; omega, fun z hz => h.left z (by simp [hz]), fun m h1 h2 => ?_, h.kept, fun z hz h1 => ?_⟩
    · have := h.apart m h1 h2
      rw [List.map_cons, List.mem_cons] at this
      exact this.resolve_left fun e => h1 (by rw [e]; exact h0)
    · rcases List.mem_append.1 hz with hz | hz
      · exact h.told z hz h1
      · simp only [List.mem_cons, List.not_mem_nil, or_false] at hz
        subst hz
        exact absurd h0 h1
  · have htk : takenB l t y.1 = true := taken_iff.2 (.inr h0)
    have hM : ∀ z, takenB l t z = true → z.length ≤ 900 + 9 * done.length := fun z hz => by
      rcases taken_iff.1 hz with h1 | h1
      · obtain ⟨u, hu, rfl⟩ := List.mem_map.1 ((Lab.right_get h.right z).1 h1)
        exact h.names u hu
      · have := ht z h1; omega
    have hs := free_spec hM 1100 y.1 (by omega)
    have htwo := free_two (f := 1098) htk
    have hnm := free_named (l := l) (t := t) 1100 y.1 (by
      have := hfy.1
      unfold Lab.fairB at this
      simp only [Bool.and_eq_true] at this
      exact this.1.1)
    have he : expStep t l y = if Lab.namedB false (freeL l t 1100 y.1) = true then Lab.withS (Lab.withS l y.1 []) (freeL l t 1100 y.1) y.2 else l := by
      unfold expStep
      rw [if_neg h0]
    rw [he]
    clear he
    generalize freeL l t 1100 y.1 = r at hs htwo hnm
    obtain ⟨hfr, hr⟩ := hs
    have hne : r ≠ y.1 := fun e => by rw [e, htk] at hfr; cases hfr
    obtain ⟨⟨s, hrs⟩, hrl⟩ := hr.resolve_left hne
    have hnr := hnm (by omega)
    rw [if_pos hnr]
    have hnt : ¬ (Lab.getL l r ≠ [] ∨ Lab.getL t r ≠ []) := fun e => by rw [taken_iff.2 e] at hfr; cases hfr
    have hlr : Lab.getL l r = [] := Classical.byContradiction fun e => hnt (.inl e)
    have htr : Lab.getL t r = [] := Classical.byContradiction fun e => hnt (.inr e)
    have hg : ∀ m, Lab.getL (Lab.withS (Lab.withS l y.1 []) r y.2) m = if m = r then y.2 else if m = y.1 then [] else Lab.getL l m := fun m => by rw [Lab.get_withS, Lab.get_withS]
    have hw0 : Lab.withS l y.1 [] = Lab.woL l y.1 := by unfold Lab.withS; rw [if_pos rfl]
    have hlen : (Lab.withS (Lab.withS l y.1 []) r y.2).length = l.length := by
      rw [Lab.with_len2 _ _ _ hfy.2, hw0]
      have h1 := Lab.wo_len (n := y.1) (Lab.right_nodup h.right)
      have h2 := Lab.wo_len (n := r) (Lab.right_nodup (Lab.wo_right h.right y.1))
      rw [if_pos ((Lab.right_get h.right y.1).1 (by rw [hly]; exact hfy.2))] at h1
      have h3 : ¬ r ∈ (Lab.woL l y.1).map (·.1) := fun e => by
        have := (Lab.right_get (Lab.wo_right h.right y.1) r).2 e
        rw [Lab.get_wo hne] at this
        exact this hlr
      rw [if_neg h3] at h2
      omega
    have hfair : Lab.fairB (r, y.2) = true := by
      have := hfy.1
      unfold Lab.fairB at this ⊢
      simp only [Bool.and_eq_true] at this ⊢
      refine ⟨⟨hnr, this.1.2⟩, ?_⟩
      have : r ≠ Lab.nameS := by rw [hrs]; intro e; simp [expS, Lab.nameS] at e
      simp [this]
    have hll := h.len
    refine ⟨Lab.with_right (by rw [hw0]; exact Lab.wo_right h.right _) hfair hfy.2 (by rw [hlen]; omega), by rw [hlen, h.len], fun z hz => ?_, fun z hz => ?_, fun m h1 h2 => ?_, fun z hz h1 => ?_, fun z hz h1 => ?_⟩
    · simp only [List.length_append, List.length_cons, List.length_nil]
      rcases with_mem hz with hz | rfl
      · rcases with_mem hz with hz | rfl
        · have := h.names z hz; omega
        · have h2 := hM _ htk
          show y.1.length ≤ _
          omega
      · show r.length ≤ _
        omega
    · have hz1 := h.left z (by simp [hz])
      have hzv := hval z (by rw [hxe]; simp [hz])
      have hzy : z.1 ≠ y.1 := fun e => by
        have hnd := Lab.right_nodup hx
        rw [hxe, List.map_append, List.map_cons, List.nodup_append, List.nodup_cons] at hnd
        exact hnd.2.1.1 (List.mem_map.2 ⟨z, hz, e⟩)
      rw [hg, if_neg (fun e => hzv (by rw [← hz1, e, hlr])), if_neg hzy, hz1]
    · rw [hg] at h2
      by_cases e1 : m = r
      · exact absurd htr (by rw [← e1]; exact h1)
      · rw [if_neg e1] at h2
        by_cases e2 : m = y.1
        · rw [if_pos e2] at h2; exact absurd rfl h2
        · rw [if_neg e2] at h2
          have := h.apart m h1 h2
          rw [List.map_cons, List.mem_cons] at this
          exact this.resolve_left e2
    · have hz1 := h.kept z hz h1
      have hzv := hval z hz
      rw [hg, if_neg (fun e => hzv (by rw [← hz1, e, hlr])), if_neg (fun e => h0 (by rw [← e]; exact h1)), hz1]
    · rcases List.mem_append.1 hz with hz | hz
      · rcases h.told z hz h1 with h2 | h2
        · by_cases e2 : expS ++ z.1 = y.1
          · exact .inr (by rw [e2]; exact h0)
          · left
            rw [hg]
            by_cases e3 : expS ++ z.1 = r
            · rw [if_pos e3]; exact hfy.2
            · rw [if_neg e3, if_neg e2]; exact h2
        · exact .inr h2
      · simp only [List.mem_cons, List.not_mem_nil, or_false] at hz
        subst hz
        have hel : expS ++ z.1 ≠ z.1 := fun e => by
          have := congrArg List.length e
          rw [exp_len] at this
          omega
        rcases htwo with h2 | h2
        · rcases taken_iff.1 h2 with h3 | h3
          · left
            rw [hg]
            by_cases e3 : expS ++ z.1 = r
            · rw [if_pos e3]; exact hfy.2
            · rw [if_neg e3, if_neg hel]; exact h3
          · exact .inr h3
        · left
          rw [hg, if_pos h2.symm]
          exact hfy.2
theorem Gone.all {x t : List Lab.Lab} (hx : Lab.rightB x = true) (hn : x.length ≤ 10) (ht : ∀ m, Lab.getL t m ≠ [] → m.length ≤ 900) : ∀ (rest done l : List Lab.Lab), x = done ++ rest → Gone x t done rest l → Gone x t (done ++ rest) [] (rest.foldl (expStep t) l)
  | [], done, l, _, h => by simpa using h
  | y :: r, done, l, he, h => by
    have := Gone.all hx hn ht r (done ++ [y]) (expStep t l y) (by rw [he]; simp) (h.step hx hn ht he)
    simpa using this
theorem gone {x t : List Lab.Lab} (hx : Lab.rightB x = true) (hn : x.length ≤ 10) (hxn : ∀ y ∈ x, y.1.length ≤ 900) (ht : ∀ m, Lab.getL t m ≠ [] → m.length ≤ 900) : Gone x t x [] (exportedL x t) := by
  have := Gone.all hx hn ht x [] x rfl ⟨hx, rfl, fun y hy => by have := hxn y hy; omega, fun y hy => Lab.get_mem (Lab.right_rise hx) hy, fun m _ h2 => (Lab.right_get hx m).1 h2, fun y hy _ => Lab.get_mem (Lab.right_rise hx) hy, fun y hy => by simp at hy⟩
  exact this
end Go.Proofs.YtmkckngecjpklaaGreatDoor
end
section
open Go Go.Vg Go.RowKit Go.Proofs Go.Proofs.YtmkckngecjpklaaGreatDoor
namespace Go.Proofs.YtmkckngecjpklaaGreatDoor
set_option linter.unusedSimpArgs false

/-- a set in order whose names are not too long -/
structure ExpI (n : Nat) (l : List Lab.Lab) : Prop where
  so : Lab.sortedL l
  len : l.length ≤ n
  nm : ∀ y ∈ l, y.1.length ≤ 1024
theorem named_len {n : List UInt8} (h : Lab.namedB false n = true) : n.length ≤ 1024 := by
  unfold Lab.namedB at h
  simp only [Bool.and_eq_true, decide_eq_true_eq] at h
  omega
theorem ExpI.step {t l : List Lab.Lab} {y : Lab.Lab} {n : Nat} (h : ExpI n l) : ExpI (n + 1) (expStep t l y) := by
  unfold expStep
  split
  · exact ⟨h.so, by have := h.len; omega, h.nm⟩
  · split
    · rename_i hr
      refine ⟨with_sorted (with_sorted h.so), ?_, fun z hz => ?_⟩
      · have h1 := Lab.with_len (Lab.withS l y.1 []) (freeL l t 1100 y.1) y.2
        have h2 : (Lab.withS l y.1 []).length ≤ l.length := by
          unfold Lab.withS
          rw [if_pos rfl]
          unfold Lab.woL Lab.pickL
          exact List.length_filter_le _ _
        have := h.len
        omega
      · rcases with_mem hz with hz | rfl
        · rcases with_mem hz with hz | rfl
          · exact h.nm z hz
          · exact Nat.le_trans (free_len 1100 y.1) (named_len hr)
        · exact named_len hr
    · exact ⟨h.so, by have := h.len; omega, h.nm⟩
theorem ExpI.fold {t x : List Lab.Lab} {n : Nat} (h : ExpI n x) : ∀ (l : List Lab.Lab), ExpI (n + l.length) (l.foldl (expStep t) x) := by
  intro l
  suffices hs : ∀ (l : List Lab.Lab) (n : Nat) (x : List Lab.Lab), ExpI n x → ExpI (n + l.length) (l.foldl (expStep t) x) from hs l n x h
  intro l
  induction l with
  | nil => intro n x h; exact h
  | cons y r ih =>
    intro n x h
    have := ih (n + 1) _ (h.step (t := t) (y := y))
    rw [List.foldl_cons, List.length_cons, show n + (r.length + 1) = n + 1 + r.length by omega]
    exact this
theorem taken_len {l t : List Lab.Lab} {n : List UInt8} (hl : ∀ y ∈ l, y.1.length ≤ 1024) (ht : ∀ y ∈ t, y.1.length ≤ 1024) (h : takenB l t n = true) : n.length ≤ 1024 := by
  have hm : ∀ (ls : List Lab.Lab), Lab.getL ls n ≠ [] → n ∈ ls.map (·.1) := fun ls h2 => Classical.byContradiction fun h3 => h2 (Lab.get_none h3)
  rcases taken_iff.1 h with h | h
  · obtain ⟨y, hy, rfl⟩ := List.mem_map.1 (hm _ h)
    exact hl y hy
  · obtain ⟨y, hy, rfl⟩ := List.mem_map.1 (hm _ h)
    exact ht y hy
theorem owns_out {w : World} {B r : Nat} {v : Value} {et k : Nat} {xs : List (List Value)} (h : Owns w B v et k xs) (hd : Df r w) : Owns (outW r w) B v et k xs := by
  obtain ⟨⟨hl, h⟩, hk⟩ := h
  refine ⟨⟨hl, ?_⟩, hk⟩
  rcases h with h | ⟨g, cap, cur, h1, h2, h3, h4⟩
  · exact .inl h
  · exact .inr ⟨g, cap, cur, h1, h2, by rw [(outW_wr r w).block g (fun e => by subst e; unfold Df at hd; rw [hd] at h3; cases h3)]; exact h3, h4⟩
set_option maxHeartbeats 2000000 in
theorem exported_ok (v tv : Value) (x t : List Lab.Lab) (w : World) (hv : Lab.Labs w v x) (htv : Lab.Labs w tv t) (hx : ExpI 100 x) (ht : ∀ y ∈ t, y.1.length ≤ 1024) :
    Ret Tryz.prog 76 ⟨[v, tv]⟩ w fun r w' => Upd w v x w' r (exportedL x t) ∧ Ext w w' := by
  refine ret_of_GM Tryz.func76 rfl Tryz.ntmps76 rfl ?_
  simp only [argEnv]
  refine rn ?_
  refine sBox (us := [v]) (fun W1 hb1 hs1 hx1 => ?_)
  have htv1 := htv.to hx1
  refine sBox (us := [tv]) (fun W2 hb2 hs2 hx2 => ?_)
  have hx02 := hx1.trans hx2
  have hb12 := hb1.to hx2
  have hv2 := hv.to hx02
  refine rn ?_
  refine sCall c77 (Lab.all_ok v x W2 hv2) ?_
  rintro _ W3 ⟨b, rfl, hbs, hbb, hx3⟩
  have hx03 := hx02.trans hx3
  have hb1 := hb12.to hx3
  have hb2 := hb2.to hx3
  refine rn ?_
  refine G.rangeFunc rfl rfl c151 (Lab.all1_ok v x b) rfl rfl (by intro x hx; obtain ⟨y, _, rfl⟩ := List.mem_map.1 hx; rfl)
    (fun i W => Ext w W ∧ ∃ lv, ((lv = v ∧ (x.take i).foldl (expStep t) x = x) ∨ Lab.LO W W1.heap.size lv ((x.take i).foldl (expStep t) x)) ∧ Bx W w.heap.size [lv] ∧ Bx W W1.heap.size [tv] ∧ Bx W b [v]) (fun _ _ => False) ?_ ?_ ?_ ?_ ?_ ?_ ?_
  · rintro l hl i W W' ⟨h1, lv, h2, h3, h4, h5⟩ hk
    have hz := hx03.size
    refine ⟨Below.kept h1 hk (by omega) h1.size, lv, ?_, h3.kept hk, h4.kept hk, h5.kept hk⟩
    rcases h2 with h2 | h2
    · exact .inl h2
    · exact .inr (Owns.kept h2 hk)
  · rintro l hl c W W' h hk
    exact h
  · rintro i W ⟨h1, lv, h2, h3, h4, h5⟩
    exact ⟨h5.cells.one, hv.to h1⟩
  · rintro w' hxw
    exact ⟨hx03.trans hxw, v, .inl ⟨rfl, rfl⟩, hb1.to hxw, hb2.to hxw, hbb.to hxw⟩
  · rintro l r rc i xs W hl hlr hxi ⟨h1, lv, h2, h3, h4, h5⟩ hLp
    simp only [List.getElem?_map, Option.map_eq_some_iff] at hxi
    obtain ⟨y, hy, rfl⟩ := hxi
    obtain ⟨hil, hyi⟩ := List.getElem?_eq_some_iff.1 hy
    have hcur := hx.fold (t := t) (x.take i)
    have hstep : (x.take (i + 1)).foldl (expStep t) x = expStep t ((x.take i).foldl (expStep t) x) y := by
      rw [List.take_succ_eq_append_getElem hil, List.foldl_append, hyi]; rfl
    have hxl := hx.len
    rw [List.length_take] at hcur
    generalize (x.take i).foldl (expStep t) x = cur at h2 hcur hstep
    refine rn ?_
    refine G.beg rfl rfl rfl hLp hlr ?_
    intro W4 hk hLp4 hsz
    have hz3 := hx03.size
    have h1 : Ext w W4 := Below.kept h1 hk (by omega) h1.size
    have h2 : (lv = v ∧ cur = x) ∨ Lab.LO W4 W1.heap.size lv cur := by
      rcases h2 with h2 | h2
      · exact .inl h2
      · exact .inr (Owns.kept h2 hk)
    have h3 := h3.kept hk
    have h4 := h4.kept hk
    have h5 := h5.kept hk
    have hbz : W1.heap.size ≤ W2.heap.size := hx2.size
    have hlv : Lab.Labs W4 lv cur := by
      rcases h2 with ⟨rfl, rfl⟩ | h2
      · exact hv.to h1
      · exact Owns.sli h2
    have htv4 := htv.to h1
    clear hLp
    refine rn ?_
    refine sCall c78 (Lab.get_ok tv t y.1 W4 htv4) ?_
    rintro _ W5 ⟨rfl, hx5⟩
    refine rn ?_
    first | refine G.condD rfl (fun hc => ?_) (fun hc => ?_) | refine G.condN rfl (fun hc => ?_) (fun hc => ?_) | refine G.cond rfl (fun hc => ?_) (fun hc => ?_)
    · refine rn ?_
      refine G.nil fun t' _ => ⟨hLp4.to hx5, h1.trans hx5, lv, ?_, h3.to hx5, h4.to hx5, h5.to hx5⟩
      have e : expStep t cur y = cur := by unfold expStep; rw [if_pos hc]
      rw [hstep, e]
      rcases h2 with h2 | h2
      · exact .inl h2
      · exact .inr (h2.to hx5)
    have hc0 : ¬ Lab.getL t y.1 = [] := hc
    clear hc
    refine rn ?_
    refine (G.loop (fun z : List UInt8 × Nat => [(5, none, S y.1), (6, none, S y.2), (7, none, S z.1), (2, none, ptr w.heap.size), (3, none, ptr W1.heap.size)])
      (fun z W => Ext W5 W ∧ freeL cur t z.2 z.1 = freeL cur t 1100 y.1 ∧ 1026 ≤ z.2 + z.1.length ∧ z.1.length ≤ 1100) (fun z => z.2) (y.1, 1100) (by repeat (first | exact Sub.nil _ | refine Sub.cons rfl ?_)) ⟨Ext.refl _, rfl, by simp only; omega, ?_⟩ ?_)
    · have := hx.nm y (by rw [← hyi]; exact List.getElem_mem _)
      simp only; omega
    rintro ⟨nm, f⟩ W6 ⟨hx6, hfr, hfn, hnl⟩
    simp only at hfr hfn hnl ⊢
    have hx46 := hx5.trans hx6
    have hlv6 := hlv.to hx46
    have htv6 := htv4.to hx46
    have h36 := h3.to hx46
    have h46 := h4.to hx46
    refine rn ?_
    refine sCall c78 (Lab.get_ok lv cur nm W6 hlv6) ?_
    rintro _ W7 ⟨rfl, hx7⟩
    have h47 := h46.to hx7
    refine rn ?_
    refine sCallx c78 (fun hc => Lab.get_ok tv t nm W7 (htv6.to hx7)) ?_
    intro W8 hx8
    have hx68 := hx7.trans hx8
    refine rn ?_
    have htb : (!decide (Lab.getL cur nm = []) || !decide (Lab.getL t nm = [])) = takenB cur t nm := rfl
    first | refine G.condD rfl (fun hc => ?_) (fun hc => ?_) | refine G.condN rfl (fun hc => ?_) (fun hc => ?_) | refine G.cond rfl (fun hc => ?_) (fun hc => ?_)
    · rw [htb] at hc
      have hnl2 := taken_len hcur.nm ht hc
      obtain ⟨f', rfl⟩ : ∃ f', f = f' + 1 := ⟨f - 1, by omega⟩
      have hfr2 : freeL cur t f' (expS ++ nm) = freeL cur t 1100 y.1 := by rw [← hfr]; simp only [freeL]; rw [if_pos hc]
      refine rn ?_
      refine sCat tb ?_
      refine rn ?_
      exact G.lp (x := (nm, f' + 1)) (expS ++ nm, f') (by repeat (first | exact Sub.nil _ | refine Sub.cons rfl ?_)) ⟨hx6.trans hx68, hfr2, by simp only [exp_len]; omega, by simp only [exp_len]; omega⟩ (by simp only; omega)
    have hc : takenB cur t nm = false := hc
    have hfe : freeL cur t 1100 y.1 = nm := by
      rw [← hfr]
      cases f with
      | zero => rfl
      | succ f => simp only [freeL]; rw [if_neg (by rw [hc]; simp)]
    have hx58 := hx6.trans (hx7.trans hx8)
    have hx48 := hx5.trans hx58
    have hlv8 := hlv.to hx48
    have h38 := h3.to hx48
    refine rn ?_
    refine sCall c67 (Lab.rightName_ok nm W8 (by omega)) ?_
    rintro _ W9 ⟨rfl, hx9⟩
    have hx49 := hx48.trans hx9
    have hlv9 := hlv8.to hx9
    have h39 := h38.to hx9
    refine rn ?_
    first | refine G.condD rfl (fun hc => ?_) (fun hc => ?_) | refine G.condN rfl (fun hc => ?_) (fun hc => ?_) | refine G.cond rfl (fun hc => ?_) (fun hc => ?_)
    · have e : expStep t cur y = Lab.withS (Lab.withS cur y.1 []) nm y.2 := by
        unfold expStep; rw [if_neg hc0, hfe, if_pos hc]
      have hcl := hcur.len
      refine rn ?_
      refine sCall c110 (Lab.with_ok lv cur y.1 [] W9 hlv9 hcur.so (by omega)) ?_
      rintro lv2 W10 ⟨ho10, hx10⟩
      have hwl : (Lab.withS cur y.1 []).length ≤ cur.length := by
        unfold Lab.withS
        rw [if_pos rfl]
        unfold Lab.woL Lab.pickL
        exact List.length_filter_le _ _
      refine rn ?_
      refine sCall c110 (Lab.with_ok lv2 _ nm y.2 W10 ho10.sli (with_sorted hcur.so) (by omega)) ?_
      rintro lv3 W11 ⟨ho11, hx11⟩
      have hx911 := hx10.trans hx11
      have hx411 := hx49.trans hx911
      have h311 := h39.to hx911
      have hwz := h4.lt
      have hW4z := h1.size
      have hx4z := hx49.size
      have hx10z := hx10.size
      refine rn ?_
      refine sSt tb (vs := [lv3]) (fun W12 hb12 hw12 => ?_) (hb := h311)
      refine G.nil fun t' _ => ⟨(hLp4.to hx411).wr h311 hw12, Below.wr (h1.trans hx411) hw12 (by omega), lv3, ?_, hb12, (h4.to hx411).wr hw12 (by omega), (h5.to hx411).wr hw12 (by omega)⟩
      rw [hstep, e]
      exact .inr ((Owns.mono (B' := W1.heap.size) ho11 (by omega)).wr hw12 (by omega))
    · have e : expStep t cur y = cur := by
        unfold expStep; rw [if_neg hc0, hfe, if_neg (by simpa using hc)]
      refine rn ?_
      refine G.nil fun t' _ => ⟨hLp4.to hx49, h1.trans hx49, lv, ?_, h39, h4.to hx49, h5.to hx49⟩
      rw [hstep, e]
      rcases h2 with h2 | h2
      · exact .inl h2
      · exact .inr (h2.to hx49)
  · rintro r W hr ⟨h1, lv, h2, h3, h4, h5⟩ hD
    rw [List.length_map, List.take_length] at h2
    refine rn ?_
    have hz3 := hx03.size
    refine G.retM rfl rfl hD fun t' ht' => ⟨_, res1 ht' rfl rfl _, ?_, h1.wr (outW_wr r _) (by omega)⟩
    rcases h2 with h2 | h2
    · exact .inl h2
    · exact .inr (owns_out (Owns.mono h2 hx1.size) hD)
  · rintro r c W hr h
    exact h.elim
end Go.Proofs.YtmkckngecjpklaaGreatDoor
end
section
open Go Go.Vg Go.RowKit Go.Proofs Go.Proofs.YtmkckngecjpklaaGreatDoor
namespace Go.Proofs.YtmkckngecjpklaaGreatDoor
set_option linter.unusedSimpArgs false

/-- a target's labels put into a set -/
def putsL (c : Lab.Lab → Bool) (t l : List Lab.Lab) : List Lab.Lab := t.foldl (fun l y => if c y = true then putR l y.1 y.2 else l) l
theorem puts_right (c : Lab.Lab → Bool) : ∀ (t l : List Lab.Lab), (∀ y ∈ t, Lab.fairB y = true ∧ y.2 ≠ []) → (t.map (·.1)).Nodup → Lab.rightB l = true → (∀ y ∈ t, c y = true → Lab.getL l y.1 = []) → l.length + t.length ≤ 64 →
    Lab.rightB (putsL c t l) = true ∧ (putsL c t l).length = l.length + (t.filter c).length ∧ (∀ y ∈ t, c y = true → Lab.getL (putsL c t l) y.1 = y.2) ∧ (∀ m, (∀ y ∈ t, c y = true → y.1 ≠ m) → Lab.getL (putsL c t l) m = Lab.getL l m)
  | [], l, _, _, hl, _, _ => ⟨hl, rfl, fun y hy => by simp at hy, fun _ _ => rfl⟩
  | y :: r, l, hf, hnd, hl, h0, hn => by
    rw [List.map_cons, List.nodup_cons] at hnd
    rw [List.length_cons] at hn
    have hfy := hf y (by simp)
    have hfr : ∀ z ∈ r, Lab.fairB z = true ∧ z.2 ≠ [] := fun z hz => hf z (by simp [hz])
    have hyr : ∀ z ∈ r, z.1 ≠ y.1 := fun z hz e => hnd.1 (List.mem_map.2 ⟨z, hz, e⟩)
    have e0 : putsL c (y :: r) l = putsL c r (if c y = true then putR l y.1 y.2 else l) := rfl
    rw [e0]
    by_cases hc : c y = true
    · rw [if_pos hc]
      have hg0 := h0 y (by simp) hc
      have hni : ¬ y.1 ∈ l.map (·.1) := fun e => (Lab.right_get hl y.1).2 e hg0
      have hlen : (Lab.withS l y.1 y.2).length = l.length + 1 := by
        have h1 := Lab.wo_len (n := y.1) (Lab.right_nodup hl)
        rw [if_neg hni] at h1
        rw [Lab.with_len2 _ _ _ hfy.2]
        omega
      have ep : putR l y.1 y.2 = Lab.withS l y.1 y.2 := by
        unfold putR
        rw [if_neg (by rw [fair_bad hfy.1]; simp), if_neg (by omega)]
      rw [ep]
      have hr1 : Lab.rightB (Lab.withS l y.1 y.2) = true := Lab.with_right hl hfy.1 hfy.2 (by omega)
      have ih := puts_right c r (Lab.withS l y.1 y.2) hfr hnd.2 hr1 (fun z hz hcz => by rw [Lab.get_withS, if_neg (hyr z hz)]; exact h0 z (by simp [hz]) hcz) (by omega)
      refine ⟨ih.1, ?_, fun z hz hcz => ?_, fun m hm => ?_⟩
      · rw [ih.2.1, hlen, List.filter_cons, if_pos hc, List.length_cons]; omega
      · rcases List.mem_cons.1 hz with rfl | hz
        · rw [ih.2.2.2 z.1 (fun u hu _ => hyr u hu), Lab.get_withS, if_pos rfl]
        · exact ih.2.2.1 z hz hcz
      · rw [ih.2.2.2 m (fun u hu hcu => hm u (by simp [hu]) hcu), Lab.get_withS, if_neg (fun e => hm y (by simp) hc e.symm)]
    · rw [if_neg hc]
      have ih := puts_right c r l hfr hnd.2 hl (fun z hz hcz => h0 z (by simp [hz]) hcz) (by omega)
      refine ⟨ih.1, ?_, fun z hz hcz => ?_, fun m hm => ?_⟩
      · rw [ih.2.1, List.filter_cons, if_neg hc]
      · rcases List.mem_cons.1 hz with rfl | hz
        · exact absurd hcz hc
        · exact ih.2.2.1 z hz hcz
      · exact ih.2.2.2 m (fun u hu hcu => hm u (by simp [hu]) hcu)
/-- a sample's labels and its target's -/
def bothL (honor : Bool) (x t : List Lab.Lab) : List Lab.Lab := putsL (fun y => !honor || decide (Lab.getL x y.1 = [])) t (if honor = true then x else exportedL x t)
/-- where both have a label, and the sample's stays -/
theorem both_honor {x t : List Lab.Lab} (hx : Lab.rightB x = true) (ht : Lab.rightB t = true) (hn : x.length + t.length ≤ 60) :
    Lab.rightB (bothL true x t) = true ∧ (∀ y ∈ x, Lab.getL (bothL true x t) y.1 = y.2) ∧ (∀ z ∈ t, Lab.getL x z.1 = [] → Lab.getL (bothL true x t) z.1 = z.2) ∧ (∀ m, Lab.getL t m = [] → Lab.getL (bothL true x t) m = Lab.getL x m) := by
  have hr := puts_right (fun y => !true || decide (Lab.getL x y.1 = [])) t x (Lab.right_fair ht).1 (Lab.right_nodup ht) hx (fun y _ h => by simpa using h) (by omega)
  have e : bothL true x t = putsL (fun y => !true || decide (Lab.getL x y.1 = [])) t x := rfl
  rw [e]
  refine ⟨hr.1, fun y hy => ?_, fun z hz h => hr.2.2.1 z hz (by simp [h]), fun m hm => ?_⟩
  · rw [hr.2.2.2 y.1 (fun u _ hcu e2 => ?_), Lab.get_mem (Lab.right_rise hx) hy]
    have h1 : Lab.getL x u.1 = [] := by simpa using hcu
    rw [e2, Lab.get_mem (Lab.right_rise hx) hy] at h1
    exact ((Lab.right_fair hx).1 y hy).2 h1
  · refine hr.2.2.2 m fun u hu _ e2 => ?_
    have h1 := Lab.get_mem (Lab.right_rise ht) hu
    rw [e2, hm] at h1
    exact ((Lab.right_fair ht).1 u hu).2 h1.symm
/-- where both have a label, and the target's stays -/
theorem both_plain {x t : List Lab.Lab} (hx : Lab.rightB x = true) (ht : Lab.rightB t = true) (hn : x.length + t.length ≤ 60) (hn10 : x.length ≤ 10) (hxn : ∀ y ∈ x, y.1.length ≤ 900) (htn : ∀ y ∈ t, y.1.length ≤ 900) :
    Lab.rightB (bothL false x t) = true ∧ (bothL false x t).length = x.length + t.length ∧ (∀ z ∈ t, Lab.getL (bothL false x t) z.1 = z.2) ∧ (∀ m, Lab.getL t m = [] → Lab.getL x m ≠ [] → Lab.getL (bothL false x t) m = Lab.getL x m) ∧
      (∀ z ∈ t, Lab.getL x z.1 ≠ [] → Lab.getL (bothL false x t) (expS ++ z.1) ≠ []) := by
  have hg := gone hx hn10 hxn (t := t) (fun m hm => by
    obtain ⟨u, hu, rfl⟩ := List.mem_map.1 ((Lab.right_get ht m).1 hm)
    exact htn u hu)
  have htv : ∀ z ∈ t, Lab.getL t z.1 = z.2 ∧ z.2 ≠ [] := fun z hz => ⟨Lab.get_mem (Lab.right_rise ht) hz, ((Lab.right_fair ht).1 z hz).2⟩
  have hll := hg.len
  have hr := puts_right (fun y => !false || decide (Lab.getL x y.1 = [])) t (exportedL x t) (Lab.right_fair ht).1 (Lab.right_nodup ht) hg.right (fun y hy _ => Classical.byContradiction fun e => by
    have := hg.apart y.1 (by rw [(htv y hy).1]; exact (htv y hy).2) e
    simp at this) (by omega)
  have e : bothL false x t = putsL (fun y => !false || decide (Lab.getL x y.1 = [])) t (exportedL x t) := rfl
  have hfl : t.filter (fun y => !false || decide (Lab.getL x y.1 = [])) = t := by
    rw [List.filter_eq_self]
    intro y _
    simp
  rw [hfl] at hr
  rw [e]
  have hpass : ∀ m, Lab.getL t m = [] → Lab.getL (putsL (fun y => !false || decide (Lab.getL x y.1 = [])) t (exportedL x t)) m = Lab.getL (exportedL x t) m := fun m hm => by
    refine hr.2.2.2 m fun u hu _ e2 => ?_
    have h1 := htv u hu
    rw [e2, hm] at h1
    exact h1.2 h1.1.symm
  refine ⟨hr.1, by rw [hr.2.1, hg.len], fun z hz => hr.2.2.1 z hz (by simp), fun m hm hxm => ?_, fun z hz hxz => ?_⟩
  · rw [hpass m hm]
    obtain ⟨u, hu, rfl⟩ := List.mem_map.1 ((Lab.right_get hx m).1 hxm)
    rw [hg.kept u hu hm, Lab.get_mem (Lab.right_rise hx) hu]
  · obtain ⟨u, hu, e1⟩ := List.mem_map.1 ((Lab.right_get hx z.1).1 hxz)
    by_cases h3 : Lab.getL t (expS ++ z.1) = []
    · rw [hpass _ h3]
      have h4 := hg.told u hu (by rw [e1, (htv z hz).1]; exact (htv z hz).2)
      rw [e1] at h4
      rcases h4 with h4 | h4
      · exact h4
      · exact absurd h3 h4
    · obtain ⟨v, hv, e2⟩ := List.mem_map.1 ((Lab.right_get ht _).1 h3)
      rw [← e2, hr.2.2.1 v hv (by simp)]
      exact (htv v hv).2
end Go.Proofs.YtmkckngecjpklaaGreatDoor
end
section
open Go Go.Vg Go.RowKit Go.Proofs Go.Proofs.YtmkckngecjpklaaGreatDoor
namespace Go.Proofs.YtmkckngecjpklaaGreatDoor
set_option linter.unusedSimpArgs false
namespace Lab
theorem rightTo_succ {ls : List Lab} {n : Nat} (h : rightTo ls n) (hc : okAt ls n = true) : rightTo ls (n + 1) := by
  intro i hi
  by_cases e : i = n
  · subst e; exact hc
  · exact h i (by omega)
theorem rightB_no {ls : List Lab} {n : Nat} (hn : n < ls.length) (hc : okAt ls n = false) : rightB ls = false := by
  have : ¬ rightTo ls ls.length := fun h => by rw [h n hn] at hc; cases hc
  simp [rightB, this]
theorem lright_ok (v : Value) (ls : List Lab) (w : World) (hv : Labs w v ls) (hz : ∀ x ∈ ls, LabSz x) (hT : Tabs w) :
    Ret Tryz.prog 81 ⟨[v]⟩ w fun r w' => r = .bool (rightB ls) ∧ Ext w w' := by
  have hbd := Labs.bound hv
  refine ret_of_G Tryz.func81 rfl Tryz.ntmps81 rfl ?_
  simp only [argEnv]
  refine rn ?_
  rw [List.length_map]
  refine rn ?_
  refine (G.loop (fun k : Nat => [(0, none, v), (5, none, v), (6, none, .int .i64 ls.length), (7, none, .int .i64 k)]) (fun k w' => Ext w w' ∧ k ≤ ls.length ∧ rightTo ls k) (fun k => ls.length - k) 0 (by repeat (first | exact Sub.nil _ | refine Sub.cons rfl ?_)) ⟨Ext.refl _, by omega, fun i hi => by omega⟩ ?_)
  rintro k w1 ⟨hx1, hk, hto⟩
  have hv1 := hv.to hx1
  refine rn ?_
  first | refine G.condD rfl (fun hc => ?_) (fun hc => ?_) | refine G.condN rfl (fun hc => ?_) (fun hc => ?_) | refine G.cond rfl (fun hc => ?_) (fun hc => ?_)
  · have hlt : k < ls.length := by omega
    have hgk := Labs.getD hlt
    have hgm := Labs.getD (ls := ls) (k := k - 1) (by omega)
    have hzk := hz _ (labAt_mem hlt)
    have hok : okAt ls k = !(!fairB (labAt ls k) || decide ((labAt ls k).2 = []) || decide ((0 : Int) < k) && !Op.bytesLess (labAt ls (k - 1)).1 (labAt ls k).1) := rfl
    try (first | refine gl tb ?_ | refine gg tb ?_ | refine ll tb ?_ | refine lg tb ?_); repeat ((first | refine G.condT rfl ?_ | refine G.condF rfl ?_ | refine sFa tb ?_ | refine sLd tb ?_ | refine sLa tb ?_ | refine sLen tb ?_ | refine sFd tb ?_ | refine sBd tb ?_ | refine sIa tb k ?_); try (first | refine gl tb ?_ | refine gg tb ?_ | refine ll tb ?_ | refine lg tb ?_))
    refine sAl tb ?_
    intro w2 hb2 hs2 hx2
    refine rn ?_
    refine sSt tb ?_ (h1 := by simp [Value.oneCell', S, labC])
    intro w3 hb3 hw3
    have hx3 : Ext w1 w3 := Below.wr hx2 hw3 (Nat.le_refl _)
    have hv3 := hv1.to hx3
    have hx03 := hx1.trans hx3
    clear hb2 hx2 hw3
    refine rn ?_
    refine G.regionM [(0, true), (1, false), (2, true), (3, true), (4, true), (5, true), (6, true), (7, true), (8, true), (9, true), (10, true), (11, true), (12, true), (13, true), (14, true), (15, true), (16, true), (17, true), (18, true), (19, true), (20, true), (21, true), (22, true)] (Ext w3) (by kernel_rfl) (by kernel_rfl) rfl mixed (Ext.drew w3) rfl ?_
    refine rd ?_
    refine GM.eff (Step.callX rfl rfl (by repeat (first | exact OpL.nil | refine OpL.cons (Op1.of rfl (by first | exact fun _ => rfl | exact fun h => h | exact fun h => bL h | exact fun h => bL (bL h) | exact fun h => bL (bL (bL h)))) ?_)) c152 rfl (fun hc => right_ok (labAt ls k) w3.drew hzk (hT.to hx03.drew')) ?_)
    intro w4 hx4
    have hx4 := (Ext.drew w3).trans hx4
    refine ⟨hx4, ?_⟩
    rw [okB_fair]
    refine rd ?_
    refine dAd tb ?_
    refine dIa tb (k - 1) ?_
    refine rd ?_
    refine GM.nil ?_
    have hx04 := hx03.trans hx4
    refine rn ?_
    first | refine G.condD rfl (fun hc => ?_) (fun hc => ?_) | refine G.condN rfl (fun hc => ?_) (fun hc => ?_) | refine G.cond rfl (fun hc => ?_) (fun hc => ?_)
    · rw [hc] at hok
      refine rn ?_
      refine G.ret1 rfl rfl rfl rfl ?_
      exact ⟨by rw [rightB_no hlt hok], hx04⟩
    · rw [hc] at hok
      refine rn ?_
      refine sAd tb ?_
      refine rn ?_
      exact G.lp (k + 1) (by repeat (first | exact Sub.nil _ | refine Sub.cons rfl ?_)) ⟨hx04, by omega, rightTo_succ hto hok⟩ (by omega)
  · have hke : k = ls.length := by omega
    subst hke
    refine rn ?_
    rw [List.length_map]
    refine rn ?_
    refine G.ret1 rfl rfl rfl rfl ?_
    refine ⟨?_, hx1⟩
    simp [rightB, hto]
end Lab
end Go.Proofs.YtmkckngecjpklaaGreatDoor
end
section
open Go Go.Vg Go.RowKit Go.Proofs Go.Proofs.YtmkckngecjpklaaGreatDoor
namespace Go.Proofs.YtmkckngecjpklaaGreatDoor
set_option linter.unusedSimpArgs false

/-- a result in a box, and one beside it, behind a loop over a function -/
theorem retATM {X : Cx} {k : List Kt} {e : Env} {w : World} {P : Program} {fn : Func} {R : Value → World → Prop} {r : Nat} (T : Tb P) (hX : X.fin = retFinM P fn R) (hds : X.ds = [⟨.collected r, #[]⟩]) (hd : Df r w) {s ty sz b s' : Nat} {z p v : Value} {us : List Value} {td : TypeDesc}
    (hc : CellsAt (outW r w) p us) (h : R (.tuple ⟨[.agg ⟨us⟩, v]⟩) (outW r w)) (hr : fn.results = #[.cell s ty, .tmp s']) (hv : Go.Vg.look e s = some (none, p)) (hv' : Go.Vg.look e s' = some (none, v)) (ht : T.ty ty = some td) (ha : aggT td = true) (hi : T.inf ty = some (z, sz, b)) (hl : us.length = sz) : G X (.code .ret :: k) e w := by
  refine G.retM hX hds hd fun t hf => ⟨_, ?_, h⟩
  obtain ⟨a, rfl, _, hc⟩ := hc
  subst hl
  have h1 : t.getD s undef = .pointer (some a) := (hf.get _ _ _ hv).2
  have h1' : t.getD s' undef = v := (hf.get _ _ _ hv').2
  have h0 := run_loadCells_list (P := P) (outW r w) a us hc
  have h2 : (loadVar ty a).run P (outW r w) = .ok (.agg ⟨us⟩) (outW r w) := by
    simp only [loadVar, Sem.run_bind, Sem.run_pure, Result.andThen_ok, run_isAgg (T.ok _ _ ht), ha, if_true, Go.Vg.run_sizeOf hi, h0]
  simp only [results, hr, List.mapM_toArray, List.mapM_cons, List.mapM_nil, h1, h1', asAddr, Sem.run_bind, Sem.run_map, Sem.run_pure, Result.andThen_ok, h2]
  rfl
def jobC (jn : List UInt8) (iv sl : Int) (ho : Bool) (tg rl mt : Value) : List Value := [S jn, .int .i64 iv, .int .i64 sl, .bool ho, tg, rl, mt]
def tgtC (tj : List UInt8) (tv : Value) (tu : List UInt8) (off : Int) : List Value := [S tj, tv, S tu, .int .i64 off]
def lineC (xv : Value) (f : Nat) (T : Int) (ht : Bool) : List Value := [xv, Fl f, .int .i64 T, .bool ht]
def ptC (u : Value) (T : Int) (f : Nat) : List Value := [u, .int .i64 T, Fl f]
def okS (p : List Lab.Lab × Bool) : Bool := p.2 && Lab.namedB true (Lab.getL p.1 Lab.nameS) && Lab.rightB p.1
theorem relF_inv {F : Rule → List Lab.Lab → List Lab.Lab × Bool} {Inv : List Lab.Lab → Prop} : ∀ (rs : List Rule) (ls : List Lab.Lab), (∀ r ∈ rs, ∀ cur, rightR r = true → Inv cur → (F r cur).2 = true → Inv (F r cur).1) → Inv ls → (relF F rs ls).2 = true → Inv (relF F rs ls).1
  | [], ls, _, hi, _ => hi
  | r :: rs, ls, h, hi, h2 => by
    simp only [relF] at h2 ⊢
    split
    · rename_i hr
      rw [if_pos hr] at h2
      split
      · rename_i hf
        rw [if_pos hf] at h2
        exact relF_inv rs _ (fun r' hr' => h r' (by simp [hr'])) (h r (by simp) ls hr hi hf) h2
      · rename_i hf
        rw [if_neg hf] at h2
        cases h2
    · rename_i hr
      rw [if_neg hr] at h2
      exact relF_inv rs _ (fun r' hr' => h r' (by simp [hr'])) hi h2
theorem puts_snoc (c : Lab.Lab → Bool) (t l : List Lab.Lab) (y : Lab.Lab) : putsL c (t ++ [y]) l = if c y = true then putR (putsL c t l) y.1 y.2 else putsL c t l := by
  unfold putsL
  rw [List.foldl_append]; rfl
theorem putR_so {l : List Lab.Lab} {n v : List UInt8} (h : Lab.sortedL l) : Lab.sortedL (putR l n v) := by
  unfold putR
  split
  · exact h
  · split
    · exact h
    · exact with_sorted h
theorem putR_len (l : List Lab.Lab) (n v : List UInt8) : (putR l n v).length ≤ l.length + 1 := by
  unfold putR
  split
  · omega
  · split
    · omega
    · exact Lab.with_len _ _ _
theorem puts_so (c : Lab.Lab → Bool) : ∀ (t l : List Lab.Lab), Lab.sortedL l → Lab.sortedL (putsL c t l) ∧ (putsL c t l).length ≤ l.length + t.length
  | [], l, h => ⟨h, Nat.le_refl _⟩
  | y :: r, l, h => by
    have e0 : putsL c (y :: r) l = putsL c r (if c y = true then putR l y.1 y.2 else l) := rfl
    rw [e0, List.length_cons]
    split
    · have ih := puts_so c r _ (putR_so (n := y.1) (v := y.2) h)
      have := putR_len l y.1 y.2
      exact ⟨ih.1, by omega⟩
    · have ih := puts_so c r l h
      exact ⟨ih.1, by omega⟩
theorem relF_no {F : Rule → List Lab.Lab → List Lab.Lab × Bool} : ∀ (rs : List Rule) (ls : List Lab.Lab), (relF F rs ls).2 = false → (relF F rs ls).1 = []
  | [], ls, h => by cases h
  | r :: rs, ls, h => by
    simp only [relF] at h ⊢
    split
    · rename_i hr
      rw [if_pos hr] at h
      split
      · rename_i hf
        rw [if_pos hf] at h
        exact relF_no rs _ h
      · rfl
    · rename_i hr
      rw [if_neg hr] at h
      exact relF_no rs _ h
theorem get_sz {ls : List Lab.Lab} (h : ∀ y ∈ ls, Lab.LabSz y) (n : List UInt8) : (Lab.getL ls n).length ≤ 9223372036854775807 := by
  induction ls with
  | nil => simp [Lab.getL]
  | cons x r ih =>
    rw [Lab.getL]
    split
    · exact (h x (by simp)).2
    · exact ih fun y hy => h y (by simp [hy])
set_option maxHeartbeats 4000000 in
theorem series_ok (F : Rule → List Lab.Lab → List Lab.Lab × Bool) (Inv : List Lab.Lab → Prop) (jn : List UInt8) (iv sl : Int) (ho : Bool) (tg rl mt : Value) (tj : List UInt8) (tv : Value) (tu : List UInt8) (off : Int) (xv : Value) (f : Nat) (T : Int) (hasT : Bool)
    (x t : List Lab.Lab) (rs : List (Rule × Value)) (w : World) (hv : Lab.Labs w xv x) (htv : Lab.Labs w tv t) (hx : ExpI 100 x) (ht : ∀ y ∈ t, Lab.LabSz y ∧ y.1.length ≤ 1024) (htn : t.length ≤ 100)
    (hm : Sli w mt 7 (rs.map relC2)) (hsr : ∀ p ∈ rs, Srcs w p.1 p.2 ∧ RuleSz p.1 ∧ RuleOk F Inv w p) (hF : ∀ r ∈ rs.map (·.1), ∀ cur, rightR r = true → Inv cur → (F r cur).2 = true → Inv (F r cur).1) (hi : Inv (bothL ho x t)) (hI : ∀ ls, Inv ls → ∀ y ∈ ls, Lab.LabSz y) (hT : Tabs w) :
    Ret Tryz.prog 40 ⟨[.agg ⟨jobC jn iv sl ho tg rl mt⟩, .agg ⟨tgtC tj tv tu off⟩, .agg ⟨lineC xv f T hasT⟩]⟩ w fun r w' => Ext w w' ∧
      ((okS (relF F (rs.map (·.1)) (bothL ho x t)) = true ∧ ∃ u, Lab.LO w' w.heap.size u (relF F (rs.map (·.1)) (bothL ho x t)).1 ∧ r = .tuple ⟨[.agg ⟨ptC u (if hasT = true then T else 0) f⟩, .bool true]⟩) ∨
        (okS (relF F (rs.map (·.1)) (bothL ho x t)) = false ∧ r = .tuple ⟨[.agg ⟨ptC (.slice none 0 0) 0 0⟩, .bool false]⟩)) := by
  refine ret_of_GM Tryz.func40 rfl Tryz.ntmps40 rfl ?_
  simp only [argEnv]
  refine rn ?_
  refine sBox (us := jobC jn iv sl ho tg rl mt) (fun W1 hb1 hs1 hx1 => ?_)
  refine sBox (us := tgtC tj tv tu off) (fun W2 hb2 hs2 hx2 => ?_)
  refine sBox (us := lineC xv f T hasT) (fun W3 hb3 hs3 hx3 => ?_)
  refine sAl tb (us := ptC (.slice none 0 0) 0 0) (fun W4 hb4 hs4 hx4 => ?_)
  have hx34 := hx3.trans hx4
  have hx24 := hx2.trans hx34
  have hx04 := hx1.trans hx24
  have hb1 := hb1.to hx24
  have hb2 := hb2.to hx34
  have hb3 := hb3.to hx4
  have hv4 := hv.to hx04
  have htv4 := htv.to hx04
  unfold jobC at hb1
  unfold tgtC at hb2
  unfold lineC at hb3
  refine rn ?_
  have hxl := hx.len
  refine sApp tb (Owns.nil W4 W4.heap.size 78 2) hv4 ?_ (h1 := Lab.lab1 x) (hB := Nat.le_refl _)
  intro lv W5 ho5 hg5
  rw [List.nil_append] at ho5
  have hx5 : Ext W4 W5 := hg5.below _ (Ext.refl _)
  have ho5 : Lab.LO W5 W4.heap.size lv x := ho5
  refine rn ?_
  refine sAl tb (fun W6 hb6 hs6 hx6 => ?_)
  have ho6 := ho5.to hx6
  refine sSt tb (vs := [lv]) (fun W7 hb7 hw7 => ?_) (hb := hb6)
  have hx57 : Ext W5 W7 := Below.wr hx6 hw7 (Nat.le_refl _)
  have hx47 := hx5.trans hx57
  have hx07 := hx04.trans hx47
  have hne7 : some W5.heap.size ≠ lv.ownBlock := fun e => by have := (ho5.lt _ e.symm).2; omega
  have ho7 : Lab.LO W7 W4.heap.size lv x := Owns.wr2 ho6 hw7 hne7
  have hb17 := hb1.to hx47
  have hb27 := hb2.to hx47
  have hb37 := hb3.to hx47
  have hb47 := hb4.to hx47
  have hzz := hx04.size
  have hz5 := hx5.size
  have hz47 := hx47.size
  clear hb1 hb2 hb3 hb4 hb6 ho5 ho6 hx57 hx6 hg5 hx5 hw7 hx34 hx24 hx1 hx2 hx3 hx4 htv4 hv4
  refine rn ?_
  refine (G.join (fun _ : Unit => [(3, none, ptr w.heap.size), (4, none, ptr W1.heap.size), (5, none, ptr W2.heap.size), (6, none, ptr W3.heap.size), (8, none, ptr W5.heap.size)])
    (fun _ W' => Ext w W' ∧ Bx W' w.heap.size (jobC jn iv sl ho tg rl mt) ∧ Bx W' W1.heap.size (tgtC tj tv tu off) ∧ Bx W' W2.heap.size (lineC xv f T hasT) ∧ Bx W' W3.heap.size (ptC (.slice none 0 0) 0 0) ∧ ∃ lv, Bx W' W5.heap.size [lv] ∧ Lab.LO W' w.heap.size lv (if ho = true then x else exportedL x t) ∧ some W5.heap.size ≠ lv.ownBlock) (fun _ W8 hW8 => ?_) ?_)
  rotate_left
  · first | refine G.condD rfl (fun hc => ?_) (fun hc => ?_) | refine G.condN rfl (fun hc => ?_) (fun hc => ?_) | refine G.cond rfl (fun hc => ?_) (fun hc => ?_)
    · have hof : ho = false := by simpa using hc
      refine rn ?_
      refine sCall c76 (exported_ok lv tv x t W7 ho7.sli (htv.to hx07) hx (fun y hy => (ht y hy).2)) ?_
      rintro lv2 W8 ⟨hup, hx8⟩
      have hlv2 : Lab.Labs W8 lv2 (exportedL x t) := by
        rcases hup with ⟨rfl, e⟩ | h
        · rw [e]; exact ho7.sli.to hx8
        · exact Owns.sli h
      refine rn ?_
      refine sSt tb (vs := [lv2]) (fun W9 hb9 hw9 => ?_) (hb := hb7.to hx8)
      have hne9 : some W5.heap.size ≠ lv2.ownBlock := by
        rcases hup with ⟨rfl, e⟩ | h
        · exact hne7
        · exact Owns.ne h hb7.lt
      have ho9 : Lab.LO W9 w.heap.size lv2 (exportedL x t) := by
        rcases hup with ⟨rfl, e⟩ | h
        · rw [e]; exact Owns.wr2 (Owns.mono (Owns.to ho7 hx8) hzz) hw9 hne9
        · exact Owns.wr2 (Owns.mono h hx07.size) hw9 hne9
      have hl0 := hb17.lt
      have hl1 := hb27.lt
      refine rn ?_
      exact G.met () (by repeat (first | exact Sub.nil _ | refine Sub.cons rfl ?_)) ⟨Below.wr (hx07.trans hx8) hw9 (by omega), (hb17.to hx8).wr hw9 (by omega), (hb27.to hx8).wr hw9 (by omega), (hb37.to hx8).wr hw9 (by omega), (hb47.to hx8).wr hw9 (by omega), lv2, hb9, by rw [hof]; exact ho9, hne9⟩
    · have hof : ho = true := by simpa using hc
      refine rn ?_
      exact G.met () (by repeat (first | exact Sub.nil _ | refine Sub.cons rfl ?_)) ⟨hx07, hb17, hb27, hb37, hb47, lv, hb7, by rw [hof]; exact Owns.mono ho7 hzz, hne7⟩
  obtain ⟨hx8, hb18, hb28, hb38, hb48, lv8, hb78, ho8, hne8⟩ := hW8
  clear hb17 hb27 hb37 hb47 hb7 ho7 hx07 hx47 hne7
  have hbo : bothL ho x t = putsL (fun y => !ho || decide (Lab.getL x y.1 = [])) t (if ho = true then x else exportedL x t) := rfl
  have hl0 : Lab.sortedL (if ho = true then x else exportedL x t) ∧ (if ho = true then x else exportedL x t).length ≤ 200 := by
    have h1 := hx.fold (t := t) x
    split
    · exact ⟨hx.so, by omega⟩
    · exact ⟨h1.so, by have := h1.len; show (x.foldl (expStep t) x).length ≤ 200; omega⟩
  generalize (if ho = true then x else exportedL x t) = l0 at ho8 hbo hl0
  unfold tgtC at hb28
  refine rn ?_
  refine sCall c77 (Lab.all_ok tv t W8 (htv.to hx8)) ?_
  rintro _ W9 ⟨b, rfl, hbs, hbb, hx9⟩
  have hx09 := hx8.trans hx9
  have hq1 := hb18.lt
  have hq2 := hb28.lt
  have hq3 := hb38.lt
  have hq4 := hb48.lt
  have hq7 := hb78.lt
  have hz9 := hx9.size
  have hz8 := hx8.size
  refine rn ?_
  refine G.rangeFunc rfl rfl c151 (Lab.all1_ok tv t b) rfl rfl (by intro x hx; obtain ⟨y, _, rfl⟩ := List.mem_map.1 hx; rfl)
    (fun i W => Ext w W ∧ Bx W w.heap.size (jobC jn iv sl ho tg rl mt) ∧ Bx W W2.heap.size (lineC xv f T hasT) ∧ Bx W W3.heap.size (ptC (.slice none 0 0) 0 0) ∧ Bx W b [tv] ∧ ∃ lv, Bx W W5.heap.size [lv] ∧ Lab.LO W w.heap.size lv (putsL (fun y => !ho || decide (Lab.getL x y.1 = [])) (t.take i) l0) ∧ some W5.heap.size ≠ lv.ownBlock) (fun _ _ => False) ?_ ?_ ?_ ?_ ?_ ?_ ?_
  · rintro l hl i W W' ⟨h1, h2, h3, h4, h5, lv, h6, h7, h8⟩ hk
    exact ⟨Below.kept h1 hk (by omega) h1.size, h2.kept hk, h3.kept hk, h4.kept hk, h5.kept hk, lv, h6.kept hk, Owns.kept h7 hk, h8⟩
  · rintro l hl c W W' h hk
    exact h
  · rintro i W ⟨h1, h2, h3, h4, h5, -⟩
    exact ⟨h5.cells.one, htv.to h1⟩
  · rintro w' hxw
    have hx9w := hx9.trans hxw
    exact ⟨hx8.trans hx9w, hb18.to hx9w, hb38.to hx9w, hb48.to hx9w, hbb.to hxw, lv8, hb78.to hx9w, ho8.to hx9w, hne8⟩
  · rintro l r rc i xs W hl hlr hxi ⟨h1, h2, h3, h4, h5, lv, h6, h7, h8⟩ hLp
    simp only [List.getElem?_map, Option.map_eq_some_iff] at hxi
    obtain ⟨y, hy, rfl⟩ := hxi
    obtain ⟨hil, hyi⟩ := List.getElem?_eq_some_iff.1 hy
    have hty := ht y (by rw [← hyi]; exact List.getElem_mem _)
    have hcur := puts_so (fun y => !ho || decide (Lab.getL x y.1 = [])) (t.take i) l0 hl0.1
    have hcl : (putsL (fun y => !ho || decide (Lab.getL x y.1 = [])) (t.take i) l0).length ≤ 1000 := by
      have h9 := hcur.2
      rw [List.length_take] at h9
      omega
    have hstep : putsL (fun y => !ho || decide (Lab.getL x y.1 = [])) (t.take (i + 1)) l0 = if (!ho || decide (Lab.getL x y.1 = [])) = true then putR (putsL (fun y => !ho || decide (Lab.getL x y.1 = [])) (t.take i) l0) y.1 y.2 else putsL (fun y => !ho || decide (Lab.getL x y.1 = [])) (t.take i) l0 := by
      rw [List.take_succ_eq_append_getElem hil, hyi, puts_snoc]
    have hso := hcur.1
    clear hcur
    generalize putsL (fun y => !ho || decide (Lab.getL x y.1 = [])) (t.take i) l0 = cur at h7 hcl hstep hso
    refine rn ?_
    refine G.beg rfl rfl rfl hLp hlr ?_
    intro WA hk hLpA hsz
    have h1 : Ext w WA := Below.kept h1 hk (by omega) h1.size
    have h2 := h2.kept hk
    have h3 := h3.kept hk
    have h4 := h4.kept hk
    have h5 := h5.kept hk
    have h6 := h6.kept hk
    have h7 : Lab.LO WA w.heap.size lv cur := Owns.kept h7 hk
    clear hLp
    have h2j := h2
    have h3j := h3
    unfold jobC at h2
    unfold lineC at h3
    have hvA := hv.to h1
    refine rn ?_
    refine sCallx c78 (fun hc => Lab.get_ok xv x y.1 WA hvA) ?_
    intro WB hxB
    refine rn ?_
    first | refine G.condD rfl (fun hc => ?_) (fun hc => ?_) | refine G.condN rfl (fun hc => ?_) (fun hc => ?_) | refine G.cond rfl (fun hc => ?_) (fun hc => ?_)
    · rw [if_pos hc] at hstep
      have h6B := h6.to hxB
      have h7B := h7.to hxB
      have hxwB := h1.trans hxB
      refine rn ?_
      refine sCall c79 (put_okR lv cur y.1 y.2 WB h7B.sli hso hcl hty.1.1 hty.1.2 (hT.to hxwB)) ?_
      rintro u WC ⟨hup, hxC⟩
      have hus : Lab.Labs WC u (putR cur y.1 y.2) := PutS.labs ⟨hup, hxC⟩ h7B.sli
      have hxBC := hxB.trans hxC
      have h6C := h6B.to hxC
      refine rn ?_
      refine sSt tb (vs := [u]) (fun WD hbD hwD => ?_) (hb := h6C)
      have hneD : some W5.heap.size ≠ u.ownBlock := by
        rcases hup with ⟨rfl, e⟩ | h
        · exact h8
        · exact Owns.ne h h6B.lt
      have hoD : Lab.LO WD w.heap.size u (putR cur y.1 y.2) := by
        rcases hup with ⟨rfl, e⟩ | h
        · rw [e]; exact Owns.wr2 (Owns.to h7B hxC) hwD hneD
        · exact Owns.wr2 (Owns.mono h hxwB.size) hwD hneD
      refine G.nil fun t' _ => ⟨(hLpA.to hxBC).wr h6C hwD, Below.wr (h1.trans hxBC) hwD (by omega), (h2j.to hxBC).wr hwD (by omega), (h3j.to hxBC).wr hwD (by omega), (h4.to hxBC).wr hwD (by omega), (h5.to hxBC).wr hwD (by omega), u, hbD, by rw [hstep]; exact hoD, hneD⟩
    · rw [if_neg (by rw [hc]; simp)] at hstep
      refine rn ?_
      exact G.nil fun t' _ => ⟨hLpA.to hxB, h1.trans hxB, h2j.to hxB, h3j.to hxB, h4.to hxB, h5.to hxB, lv, h6.to hxB, by rw [hstep]; exact h7.to hxB, h8⟩
  · rintro r W hr ⟨h1, h2, h3, h4, h5, lv, h6, h7, h8⟩ hD
    rw [List.length_map, List.take_length, ← hbo] at h7
    have hbl : (bothL ho x t).length ≤ 1000 := by
      rw [hbo]
      have := (puts_so (fun y => !ho || decide (Lab.getL x y.1 = [])) t l0 hl0.1).2
      omega
    have h2j := h2
    unfold jobC at h2
    unfold lineC at h3
    refine rn ?_
    refine sCall c32 (relabel_ok F Inv lv mt (bothL ho x t) rs W h7.sli hi hbl (hm.to h1) (fun p hp => by obtain ⟨a1, a2, a3⟩ := hsr p hp; exact ⟨a1.to h1, a2, fun W' v' cur hr' hx' => a3 W' v' cur hr' (h1.trans hx')⟩) (hT.to h1)) ?_
    rintro _ WR ⟨u, rfl, hou, hxR⟩
    have hin := relF_inv (rs.map (·.1)) (bothL ho x t) hF hi
    have hno := relF_no (F := F) (rs.map (·.1)) (bothL ho x t)
    have hz : ∀ y ∈ (relF F (rs.map (·.1)) (bothL ho x t)).1, Lab.LabSz y := by
      rcases h : (relF F (rs.map (·.1)) (bothL ho x t)).2 with _ | _
      · rw [hno h]; simp
      · exact hI _ (hin h)
    clear hin hno
    generalize relF F (rs.map (·.1)) (bothL ho x t) = p at hou hz ⊢
    have hh := hou.sli
    have hD := hD.to hxR
    have h1R := h1.trans hxR
    have h6R := h6.to hxR
    have h3R := h3.to hxR
    have h4R := h4.to hxR
    refine rn ?_
    refine sSt tb (vs := [u]) (fun WS hbS hwS => ?_) (hb := h6R)
    have hneS : some W5.heap.size ≠ u.ownBlock := Owns.ne hou h6.lt
    have hoS : Lab.LO WS w.heap.size u p.1 := Owns.wr2 (Owns.mono hou h1.size) hwS hneS
    have h1S : Ext w WS := Below.wr h1R hwS (by omega)
    have h3S := h3R.wr hwS (by omega)
    have h4S := h4R.wr hwS (by omega)
    have hDS := hD.wr h6R hwS
    have hsz := get_sz hz Lab.nameS
    refine rn ?_
    refine sCallx c78 (fun hc => Lab.get_ok u p.1 Lab.nameS WS hoS.sli) ?_
    intro WT hxT
    refine rn ?_
    refine sCallx c80 (fun hc => Lab.rightMetric_ok (Lab.getL p.1 Lab.nameS) WT hsz) ?_
    intro WU hxU
    have hxTU := hxT.trans hxU
    have hbU := hbS.to hxTU
    refine rn ?_
    refine sCallx c81 (fun hc => Lab.lright_ok u p.1 WU (hoS.to hxTU).sli hz (hT.to (h1S.trans hxTU))) ?_
    intro WV hxV
    have hxSV := hxTU.trans hxV
    have hoV := hoS.to hxSV
    have hbV := hbS.to hxSV
    have h3V := h3S.to hxSV
    have h4V := h4S.to hxSV
    have hDV := hDS.to hxSV
    have h1V := h1S.trans hxSV
    have hok : okS p = !((!p.2 || !Lab.namedB true (Lab.getL p.1 Lab.nameS)) || !Lab.rightB p.1) := by
      unfold okS; cases p.2 <;> cases Lab.namedB true (Lab.getL p.1 Lab.nameS) <;> cases Lab.rightB p.1 <;> rfl
    refine rn ?_
    first | refine G.condD rfl (fun hc => ?_) (fun hc => ?_) | refine G.condN rfl (fun hc => ?_) (fun hc => ?_) | refine G.cond rfl (fun hc => ?_) (fun hc => ?_)
    · rw [hc] at hok
      refine rn ?_
      refine sSt tb (vs := ptC (.slice none 0 0) 0 0) (fun WX hbX hwX => ?_) (hb := h4V) (hv := rfl) (h1 := by simp [Value.oneCell', ptC])
      refine rn ?_
      have hDX := hDV.wr h4V hwX
      refine retATM tb rfl rfl hDX (hbX.out hDX).cells ⟨?_, .inr ⟨by rw [hok]; rfl, rfl⟩⟩ rfl rfl rfl rfl rfl rfl rfl
      exact (Below.wr h1V hwX (by omega)).wr (outW_wr r _) (by omega)
    · rw [hc] at hok
      have hne4 : some W3.heap.size ≠ u.ownBlock := Owns.ne hou h4.lt
      obtain ⟨au, cu, eu, -⟩ := hoV.sli.len
      subst eu
      refine rn ?_
      refine sAl tb (fun WX hbX hsX hxX => ?_)
      refine sSt tb (vs := ptC (.slice au _ cu) 0 f) (fun WY hbY hwY => ?_) (hb := hbX) (hv := rfl) (h1 := by simp [Value.oneCell', ptC])
      have hxVY : Ext WV WY := Below.wr hxX hwY (Nat.le_refl _)
      have h3Y := h3V.to hxVY
      clear hbX hwY hxX
      refine rn ?_
      refine (G.join (fun _ : Unit => [(5, none, ptr W2.heap.size), (6, none, ptr W3.heap.size), (12, none, ptr WV.heap.size)])
        (fun _ W' => Ext WV W' ∧ Bx W' WV.heap.size (ptC (.slice au (p.1.map Lab.labC).length cu) (if hasT = true then T else 0) f)) (fun _ WZ hWZ => ?_) ?_)
      rotate_left
      · first | refine G.condD rfl (fun hc => ?_) (fun hc => ?_) | refine G.condN rfl (fun hc => ?_) (fun hc => ?_) | refine G.cond rfl (fun hc => ?_) (fun hc => ?_)
        · refine rn ?_
          refine sSf tb (fun WZ hbZ hwZ => ?_) (hb := hbY)
          refine rn ?_
          exact G.met () (by repeat (first | exact Sub.nil _ | refine Sub.cons rfl ?_)) ⟨Below.wr hxVY hwZ (Nat.le_refl _), by rw [if_pos hc]; exact hbZ⟩
        · refine rn ?_
          exact G.met () (by repeat (first | exact Sub.nil _ | refine Sub.cons rfl ?_)) ⟨hxVY, by rw [if_neg (by rw [hc]; simp)]; exact hbY⟩
      obtain ⟨hxVZ, hbZ⟩ := hWZ
      have h4Z := h4V.to hxVZ
      have hDZ := hDV.to hxVZ
      have hoZ := hoV.to hxVZ
      have h1Z := h1V.trans hxVZ
      refine rn ?_
      refine sSt tb (vs := ptC (.slice au (p.1.map Lab.labC).length cu) (if hasT = true then T else 0) f) (fun WQ hbQ hwQ => ?_) (hb := h4Z) (hv := rfl) (h1 := by simp [Value.oneCell', ptC])
      refine rn ?_
      have hDQ := hDZ.wr h4Z hwQ
      refine retATM tb rfl rfl hDQ (hbQ.out hDQ).cells ⟨?_, .inl ⟨by rw [hok]; rfl, _, owns_out (Owns.wr2 hoZ hwQ hne4) hDQ, rfl⟩⟩ rfl rfl rfl rfl rfl rfl rfl
      exact (Below.wr h1Z hwQ (by omega)).wr (outW_wr r _) (by omega)
  · rintro r c W hr h
    exact h.elim
end Go.Proofs.YtmkckngecjpklaaGreatDoor
end
section
open Go Go.Vg Go.RowKit Go.Proofs Go.Proofs.YtmkckngecjpklaaGreatDoor
namespace Go.Proofs.YtmkckngecjpklaaGreatDoor
set_option linter.unusedSimpArgs false

theorem line_ok (xv : Value) (f : Nat) (T : Int) (hasT : Bool) (ls : List Lab.Lab) (w : World) (hv : Lab.Labs w xv ls) (hz : ∀ x ∈ ls, Lab.LabSz x) :
    Ret Tryz.prog 10 ⟨[.agg ⟨lineC xv f T hasT⟩]⟩ w fun r w' => ∃ u, r = .agg ⟨lineC u f T hasT⟩ ∧ Lab.LO w' w.heap.size u (Lab.setS ls) ∧ Ext w w' := by
  refine ret_of_G Tryz.func10 rfl Tryz.ntmps10 rfl ?_
  simp only [argEnv]
  refine rn ?_
  refine sBox (us := lineC xv f T hasT) (fun W1 hb1 hs1 hx1 => ?_)
  refine sAl tb (us := lineC (.slice none 0 0) 0 0 false) (fun W2 hb2 hs2 hx2 => ?_)
  have hx02 := hx1.trans hx2
  have hb1 := hb1.to hx2
  unfold lineC at hb1
  refine rn ?_
  refine sCall c12 (Lab.setS_ok xv ls W2 (hv.to hx02) hz) ?_
  rintro u W3 ⟨ho3, hx3⟩
  have ho3 : Lab.LO W3 W2.heap.size u (Lab.setS ls) := ho3
  have hh := ho3.sli
  have hx03 := hx02.trans hx3
  have hz02 := hx02.size
  have hl1 := hb1.lt
  have hl2 := hb2.lt
  refine rn ?_
  refine sSf tb (fun W4 hb4 hw4 => ?_) (hb := hb1.to hx3)
  have hb4 : Bx W4 w.heap.size (lineC u f T hasT) := hb4
  have ho4 := ho3.wr hw4 (by omega)
  obtain ⟨au, cu, eu, -⟩ := hh.len
  subst eu
  have hx04 := Below.wr hx03 hw4 (Nat.le_refl _)
  refine rn ?_
  refine sSt tb (vs := lineC (.slice au _ cu) f T hasT) (fun W5 hb5 hw5 => ?_) (hv := rfl) (h1 := by simp [Value.oneCell', lineC]) (hb := (hb2.to hx3).wr hw4 (by omega))
  refine G.retA tb rfl rfl hb5.cells ⟨_, rfl, Owns.mono (ho4.wr hw5 (by omega)) hz02, Below.wr hx04 hw5 (by omega)⟩ rfl rfl rfl rfl rfl rfl
theorem long_ok (v : Value) (ls : List Lab.Lab) (w : World) (hv : Lab.Labs w v ls) :
    Ret Tryz.prog 39 ⟨[v]⟩ w fun r w' => r = .bool (ls.any fun y => decide ((900 : Int) < y.1.length)) ∧ Ext w w' := by
  have hbd := Lab.Labs.bound hv
  refine ret_of_G Tryz.func39 rfl Tryz.ntmps39 rfl ?_
  simp only [argEnv]
  refine rn ?_
  refine (G.loop (fun k : Nat => [(0, none, v), (3, none, .int .i64 k)]) (fun k w' => w' = w ∧ k ≤ ls.length ∧ (ls.take k).any (fun y => decide ((900 : Int) < y.1.length)) = false) (fun k => ls.length - k) 0 (by repeat (first | exact Sub.nil _ | refine Sub.cons rfl ?_)) ⟨rfl, by omega, by simp⟩ ?_)
  rintro k w1 ⟨rfl, hk, hal⟩
  refine rn ?_
  rw [List.length_map]
  refine rn ?_
  first | refine G.condD rfl (fun hc => ?_) (fun hc => ?_) | refine G.condN rfl (fun hc => ?_) (fun hc => ?_) | refine G.cond rfl (fun hc => ?_) (fun hc => ?_)
  · have hlt : k < ls.length := by omega
    obtain ⟨x, hmem, hget, htk, -, -⟩ := Lab.Labs.at hlt
    try (first | refine gl tb ?_ | refine gg tb ?_ | refine ll tb ?_ | refine lg tb ?_); repeat ((first | refine G.condT rfl ?_ | refine G.condF rfl ?_ | refine sFa tb ?_ | refine sLd tb ?_ | refine sLa tb ?_ | refine sLen tb ?_ | refine sFd tb ?_ | refine sBd tb ?_ | refine sIa tb k ?_); try (first | refine gl tb ?_ | refine gg tb ?_ | refine ll tb ?_ | refine lg tb ?_))
    first | refine G.condD rfl (fun hc => ?_) (fun hc => ?_) | refine G.condN rfl (fun hc => ?_) (fun hc => ?_) | refine G.cond rfl (fun hc => ?_) (fun hc => ?_)
    · refine rn ?_
      refine G.ret1 rfl rfl rfl rfl ?_
      refine ⟨?_, Ext.refl _⟩
      congr 1
      symm
      rw [List.any_eq_true]
      exact ⟨x, hmem, decide_eq_true hc⟩
    · refine rn ?_
      refine sAd tb ?_
      refine rn ?_
      exact G.lp (x := k) (k + 1) (by repeat (first | exact Sub.nil _ | refine Sub.cons rfl ?_)) ⟨rfl, by omega, by rw [htk, List.any_append, hal]; simpa using hc⟩ (by omega)
  · obtain rfl : k = ls.length := by omega
    rw [List.take_length] at hal
    refine rn ?_
    refine G.ret1 rfl rfl rfl rfl ?_
    rw [hal]
    exact ⟨rfl, Ext.refl _⟩
end Go.Proofs.YtmkckngecjpklaaGreatDoor
end
section
open Go Go.Vg Go.RowKit Go.Proofs Go.Proofs.YtmkckngecjpklaaGreatDoor
namespace Go.Proofs.YtmkckngecjpklaaGreatDoor
set_option linter.unusedSimpArgs false

namespace Lab
theorem newR_len2 {ls out : List Lab} (h : newR ls = (0, out)) : out.length ≤ ls.length := by
  unfold newR at h
  split at h
  · split at h
    · cases h
    · split at h
      · cases h
      · simp only [Prod.mk.injEq, true_and] at h
        subst h
        rw [(foldN_perm ls).length_eq]
        unfold keptL
        exact List.length_filter_le _ _
  · cases h
theorem setS_len10 (ls : List Lab) : (setS ls).length ≤ 10 := by
  unfold setS
  suffices h : ∀ (l s : List Lab), (l.foldl setStep s).length ≤ s.length + l.length by
    have h1 := h ((ls.take 10).map clipL) []
    rw [List.length_map, List.length_take, List.length_nil] at h1
    omega
  intro l
  induction l with
  | nil => intro s; exact Nat.le_refl _
  | cons a r ih =>
    intro s
    have h1 := ih (setStep s a)
    have h2 : (setStep s a).length ≤ s.length + 1 := by
      unfold setStep
      split
      · rename_i h0
        have := newR_len2 (ls := s ++ [a]) (Prod.ext h0 rfl)
        rw [List.length_append] at this
        exact this
      · omega
    rw [List.foldl_cons, List.length_cons]
    omega
end Lab
theorem right_sz {ls : List Lab.Lab} (h : Lab.rightB ls = true) : ∀ y ∈ ls, Lab.LabSz y := fun y hy => by
  have := Lab.fair_len ((Lab.right_fair h).1 y hy).1
  exact ⟨Nat.le_trans this.1 (by decide), Nat.le_trans this.2 (by decide)⟩
theorem right_exp {ls : List Lab.Lab} (h : Lab.rightB ls = true) : ExpI 100 ls :=
  ⟨right_sorted h, by have := right_len h; omega, fun y hy => (Lab.fair_len ((Lab.right_fair h).1 y hy).1).1⟩
theorem right_metric {ls : List Lab.Lab} (h : Lab.rightB ls = true) (h2 : Lab.getL ls Lab.nameS ≠ []) : Lab.namedB true (Lab.getL ls Lab.nameS) = true := by
  obtain ⟨u, hu, e⟩ := List.mem_map.1 ((Lab.right_get h _).1 h2)
  have hf := (Lab.right_fair h).1 u hu
  have hg := Lab.get_mem (Lab.right_rise h) hu
  rw [e] at hg
  rw [hg]
  have := hf.1
  unfold Lab.fairB at this
  simp only [Bool.and_eq_true, Bool.or_eq_true, Bool.not_eq_true', decide_eq_false_iff_not, decide_eq_true_eq] at this
  rcases this.2 with (h3 | h3) | h3
  · exact absurd e h3
  · exact absurd h3 hf.2
  · exact h3
/-- Series without rules, where a set comes out -/
theorem series0_ok (ho : Bool) (tv xv : Value) (f : Nat) (T : Int) (hasT : Bool) (x t : List Lab.Lab) (w : World) (hv : Lab.Labs w xv x) (htv : Lab.Labs w tv t) (hx : Lab.rightB x = true) (ht : Lab.rightB t = true)
    (hb : Lab.rightB (bothL ho x t) = true) (hm : Lab.getL (bothL ho x t) Lab.nameS = Lab.getL x Lab.nameS) (hxm : Lab.getL x Lab.nameS ≠ []) (hT : Tabs w) :
    Ret Tryz.prog 40 ⟨[.agg ⟨jobC [] 0 0 ho (.slice none 0 0) (.slice none 0 0) (.slice none 0 0)⟩, .agg ⟨tgtC [] tv [] 0⟩, .agg ⟨lineC xv f T hasT⟩]⟩ w fun r w' => Ext w w' ∧
      ∃ u n, Lab.LO w' w.heap.size u (bothL ho x t) ∧ r = .tuple ⟨[.agg ⟨ptC u n f⟩, .bool true]⟩ := by
  have hl := right_len ht
  refine Calls.mono (series_ok (fun _ l => (l, true)) (fun l => ∀ y ∈ l, Lab.LabSz y) [] 0 0 ho (.slice none 0 0) (.slice none 0 0) (.slice none 0 0) [] tv [] 0 xv f T hasT x t [] w hv htv (right_exp hx) (fun y hy => ⟨right_sz ht y hy, (Lab.fair_len ((Lab.right_fair ht).1 y hy).1).1⟩) (by omega)
    (Owns.nil w 0 0 7).sli (fun p hp => by simp at hp) (fun r hr => by simp at hr) (right_sz hb) (fun _ h => h) hT) ?_
  rintro e w' ⟨v, he, h1, h2⟩
  have eo : okS (relF (fun _ l => (l, true)) (([] : List (Rule × Value)).map (·.1)) (bothL ho x t)) = true := by
    show (true && Lab.namedB true (Lab.getL (bothL ho x t) Lab.nameS) && Lab.rightB (bothL ho x t)) = true
    rw [hm, right_metric hx hxm, hb]; rfl
  rcases h2 with ⟨-, u, hu, hr⟩ | ⟨h3, -⟩
  · exact ⟨v, he, h1, u, _, hu, hr⟩
  · rw [eo] at h3; cases h3
set_option maxHeartbeats 4000000 in
theorem honor_law (tv0 xv0 : Value) (f : Nat) (T : Int) (hasT : Bool) (tl xl : List Lab.Lab) (w : World) (htv : Lab.Labs w tv0 tl) (hzt : ∀ x ∈ tl, Lab.LabSz x) (hxv : Lab.Labs w xv0 xl) (hzx : ∀ x ∈ xl, Lab.LabSz x) (hT : Tabs w) :
    Ret Tryz.prog 7 ⟨[tv0, .agg ⟨lineC xv0 f T hasT⟩]⟩ w fun r w' => r = .bool true ∧ Ext w w' := by
  refine ret_of_G Tryz.func7 rfl Tryz.ntmps7 rfl ?_
  simp only [argEnv]
  refine rn ?_
  refine sBox (us := lineC xv0 f T hasT) (fun W1 hb1 hs1 hx1 => ?_)
  refine rn ?_
  refine sCall c12 (Lab.setS_ok tv0 tl W1 (htv.to hx1) hzt) ?_
  rintro tv W2 ⟨hot, hx2⟩
  have hrt := Lab.setS_right tl
  have hot : Lab.LO W2 W1.heap.size tv (Lab.setS tl) := hot
  generalize Lab.setS tl = t at hrt hot
  have hx02 := hx1.trans hx2
  have hlt := hot.sli
  obtain ⟨at_, ct, et, -⟩ := hlt.len
  subst et
  refine rn ?_
  refine sAl tb (fun W3 hb3 hs3 hx3 => ?_)
  refine sSt tb (vs := tgtC [] (.slice at_ _ ct) [] 0) (fun W4 hb4 hw4 => ?_) (hb := hb3) (hv := rfl) (h1 := by simp [Value.oneCell', tgtC, S])
  have hx24 : Ext W2 W4 := Below.wr hx3 hw4 (Nat.le_refl _)
  have hx04 := hx02.trans hx24
  have hlt4 : Lab.Labs W4 (.slice at_ (t.map Lab.labC).length ct) t := hlt.to hx24
  have hb14 := hb1.to (hx2.trans hx24)
  clear hb3 hx3 hw4 hlt
  refine rn ?_
  refine sCall c10 (line_ok xv0 f T hasT xl W4 (hxv.to hx04) hzx) ?_
  rintro _ W5 ⟨xv, rfl, hox, hx5⟩
  have hrx := Lab.setS_right xl
  have hx10 := Lab.setS_len10 xl
  generalize Lab.setS xl = x at hrx hox hx10
  have hlx := hox.sli
  obtain ⟨ax, cx, ex, -⟩ := hlx.len
  subst ex
  have hox : Lab.LO W5 W4.heap.size (.slice ax (x.map Lab.labC).length cx) x := hox
  have hx05 := hx04.trans hx5
  refine rn ?_
  refine sSt tb (vs := lineC (.slice ax _ cx) f T hasT) (fun W6 hb6 hw6 => ?_) (hb := hb14.to hx5) (hv := rfl) (h1 := by simp [Value.oneCell', lineC])
  have hl4 := hb4.lt
  have hl14 := hb14.lt
  have hz24 := hx24.size
  have hz2 := hx2.size
  have hx06 : Ext w W6 := Below.wr hx05 hw6 (Nat.le_refl _)
  have hlx6 : Lab.Labs W6 (.slice ax (x.map Lab.labC).length cx) x := (hox.wr hw6 (by omega)).sli
  have hot6 : Lab.LO W6 W1.heap.size (.slice at_ (t.map Lab.labC).length ct) t := (Owns.to hot (hx24.trans hx5)).wr hw6 (by omega)
  have hlt6 : Lab.Labs W6 (.slice at_ (t.map Lab.labC).length ct) t := hot6.sli
  have hbt6 : Bx W6 W2.heap.size (tgtC [] (.slice at_ (t.map Lab.labC).length ct) [] 0) := (hb4.to hx5).wr hw6 (by omega)
  have ht10 : t.length ≤ 64 := right_len hrt
  generalize htn : (t.map Lab.labC).length = nt at hlt6 hbt6
  generalize hxn : (x.map Lab.labC).length = nx at hlx6 hb6
  rw [List.length_map] at htn hxn
  have hb6j := hb6
  have hbt6j := hbt6
  clear hb14 hb4 hot hox hlt4 hb1 hlx hx5 hw6 hx24 hot6
  unfold lineC at hb6
  unfold tgtC at hbt6
  refine rn ?_
  refine sCall c11 (Lab.refGet_ok _ x Lab.nameS W6 hlx6) ?_
  rintro _ W7 ⟨rfl, hx7⟩
  have hb7 := hb6.to hx7
  have hbt7 := hbt6.to hx7
  have hlx7 := hlx6.to hx7
  have hlt7 := hlt6.to hx7
  refine rn ?_
  rw [List.length_map, List.length_map]
  refine sAd tb (r := (x.length : Int) + t.length) ?_
  refine rn ?_
  refine sCallx c11 (fun hc => Lab.refGet_ok _ t Lab.nameS W7 hlt7) ?_
  intro W8 hx8
  have hb8 := hb7.to hx8
  have hbt8 := hbt7.to hx8
  have hlx8 := hlx7.to hx8
  have hlt8 := hlt7.to hx8
  refine rn ?_
  refine sCallx c39 (fun hc => long_ok _ x W8 hlx8) ?_
  intro W9 hx9
  have hb9 := hb8.to hx9
  have hbt9 := hbt8.to hx9
  have hlx9 := hlx8.to hx9
  have hlt9 := hlt8.to hx9
  refine rn ?_
  refine sCallx c39 (fun hc => long_ok _ t W9 hlt9) ?_
  intro WA hxA
  have hx6A := ((hx7.trans hx8).trans hx9).trans hxA
  have hx0A := hx06.trans hx6A
  refine rn ?_
  first | refine G.condD rfl (fun hc => ?_) (fun hc => ?_) | refine G.condN rfl (fun hc => ?_) (fun hc => ?_) | refine G.cond rfl (fun hc => ?_) (fun hc => ?_)
  · refine rn ?_
    refine sCall c16 (wakes_okS WA (hT.to hx0A)) ?_
    rintro _ WB ⟨rfl, hxB⟩
    refine rn ?_
    refine G.ret1 rfl rfl rfl rfl ?_
    exact ⟨rfl, hx0A.trans hxB⟩
  simp only [Bool.or_eq_false_iff, decide_eq_false_iff_not, Bool.not_eq_false', decide_eq_true_eq] at hc
  obtain ⟨⟨⟨⟨hxm, hn60⟩, htm⟩, hlgx⟩, hlgt⟩ := hc
  have hxs : ∀ y ∈ x, y.1.length ≤ 900 := fun y hy => by
    have := List.any_eq_false.1 hlgx y hy
    simp only [decide_eq_true_eq] at this
    omega
  have hts : ∀ y ∈ t, y.1.length ≤ 900 := fun y hy => by
    have := List.any_eq_false.1 hlgt y hy
    simp only [decide_eq_true_eq] at this
    omega
  obtain ⟨hA1, hA2, hA3, hA4⟩ := both_honor hrx hrt (by omega)
  obtain ⟨hB1, hB2, hB3, hB4, hB5⟩ := both_plain hrx hrt (by omega) hx10 hxs hts
  have hbA := hb6j.to hx6A
  have hbtA := hbt6j.to hx6A
  have hlxA := hlx6.to hx6A
  have hltA := hlt6.to hx6A
  clear hb7 hb8 hb9 hbt7 hbt8 hbt9 hlx7 hlx8 hlx9 hlt7 hlt8 hlt9 hb6 hbt6
  have hser1 := series0_ok true (.slice at_ nt ct) (.slice ax nx cx) f T hasT x t WA hlxA hltA hrx hrt hA1 (hA4 _ htm) hxm (hT.to hx0A)
  refine rn ?_
  refine sCall c40 (hser1) ?_
  rintro _ WB ⟨hxB, ua, na, hla, rfl⟩
  obtain ⟨aa, ca, ea, -⟩ := hla.sli.len
  subst ea
  refine rn ?_
  refine sAl tb (fun WC hbC hsC hxC => ?_)
  refine sSt tb (vs := ptC (.slice aa _ ca) na f) (fun WD hbD hwD => ?_) (hb := hbC) (hv := rfl) (h1 := by simp [Value.oneCell', ptC])
  have hxBD : Ext WB WD := Below.wr hxC hwD (Nat.le_refl _)
  have hxAD := hxB.trans hxBD
  have hx0D := hx0A.trans hxAD
  have hbxD := hbA.to hxAD
  have hbtD := hbtA.to hxAD
  have hlxD := hlxA.to hxAD
  have hltD := hltA.to hxAD
  have hlaD : Lab.Labs WD (.slice aa ((bothL true x t).map Lab.labC).length ca) (bothL true x t) := (Owns.to hla hxBD).sli
  clear hbC hxC hwD hla hser1
  have hser2 := series0_ok false (.slice at_ nt ct) (.slice ax nx cx) f T hasT x t WD hlxD hltD hrx hrt hB1 (hB4 _ htm hxm) hxm (hT.to hx0D)
  refine rn ?_
  refine sCall c40 (hser2) ?_
  rintro _ WE ⟨hxE, ub, nb, hlb, rfl⟩
  obtain ⟨ab, cb, eb, -⟩ := hlb.sli.len
  subst eb
  refine rn ?_
  refine sAl tb (fun WF hbF hsF hxF => ?_)
  refine sSt tb (vs := ptC (.slice ab _ cb) nb f) (fun WG hbG hwG => ?_) (hb := hbF) (hv := rfl) (h1 := by simp [Value.oneCell', ptC])
  have hxEG : Ext WE WG := Below.wr hxF hwG (Nat.le_refl _)
  have hxDG := hxE.trans hxEG
  have hx0G := hx0D.trans hxDG
  have hbxG := hbxD.to hxDG
  have hbtG := hbtD.to hxDG
  have hbaG := hbD.to hxDG
  have hlxG := hlxD.to hxDG
  have hltG := hltD.to hxDG
  have hlaG := hlaD.to hxDG
  have hlbG : Lab.Labs WG (.slice ab ((bothL false x t).map Lab.labC).length cb) (bothL false x t) := (Owns.to hlb hxEG).sli
  clear hbF hxF hwG hlb hser2 hbD hbxD hbtD hlxD hltD hlaD hbA hbtA hlxA hltA
  generalize hna : ((bothL true x t).map Lab.labC).length = la at hlaG hbaG
  generalize hnb : ((bothL false x t).map Lab.labC).length = lb at hlbG hbG
  rw [List.length_map] at hna hnb
  generalize bothL true x t = va at hA1 hA2 hA3 hA4 hlaG hna
  generalize bothL false x t = vb at hB1 hB2 hB3 hB4 hB5 hlbG hnb
  have hbxj := hbxG
  have hbtj := hbtG
  have hbaj := hbaG
  have hbbj := hbG
  unfold lineC at hbxG
  unfold tgtC at hbtG
  unfold ptC at hbaG hbG
  refine rn ?_
  rw [List.length_map, List.length_map, List.length_map]
  refine sAd tb (r := (x.length : Int) + t.length) ?_
  refine rn ?_
  first | refine G.condD rfl (fun hc => ?_) (fun hc => ?_) | refine G.condN rfl (fun hc => ?_) (fun hc => ?_) | refine G.cond rfl (fun hc => ?_) (fun hc => ?_)
  · exfalso
    simp [hB2] at hc
  clear hc
  refine rn ?_
  refine (G.loop (fun k : Nat => [(3, none, ptr w.heap.size), (5, none, ptr W2.heap.size), (6, none, ptr WB.heap.size), (8, none, ptr WE.heap.size), (10, none, .int .i64 k)]) (fun k W => Ext WG W ∧ k ≤ x.length) (fun k => x.length - k) 0 (by repeat (first | exact Sub.nil _ | refine Sub.cons rfl ?_)) ⟨Ext.refl _, Nat.zero_le _⟩ ?_)
  rintro k W ⟨hxW, hk⟩
  have h1 := hbxG.to hxW
  have h2 := hlxG.to hxW
  refine rn ?_
  rw [List.length_map]
  refine rn ?_
  first | refine G.condD rfl (fun hc => ?_) (fun hc => ?_) | refine G.condN rfl (fun hc => ?_) (fun hc => ?_) | refine G.cond rfl (fun hc => ?_) (fun hc => ?_)
  · have hlt : k < x.length := by omega
    obtain ⟨y, hmem, hget, -, -, -⟩ := Lab.Labs.at hlt
    refine rn ?_
    refine G.regionG (Ext W.drew) mixed (Ext.refl _) ?_
    have hxY := hxW.drew'
    have hbx := h1.to (Ext.drew W)
    have hlx := h2.to (Ext.drew W)
    generalize W.drew = Y at hxY hbx hlx
    have hba := hbaG.to hxY
    have hla := hlaG.to hxY
    refine GD.steps ([(0, true), (1, true), (2, true), (3, true), (4, true), (5, true), (6, true), (7, true), (9, true), (10, true), (11, true), (12, true), (13, true), (14, true), (8, false), (15, true)]) (by kernel_rfl) (by kernel_rfl) rfl ?_
    try (refine mm tb ?_); repeat ((first | refine dFa tb ?_ | refine dLd tb ?_ | refine dLa tb ?_ | refine dLen tb ?_ | refine dFd tb ?_ | refine dIa tb k ?_); try (refine mm tb ?_))
    refine GM.eff (Step.callF rfl rfl rfl c11 rfl (Lab.refGet_ok _ va y.1 Y hla) ?_)
    rintro _ Y1 ⟨rfl, hy1⟩
    refine ⟨hy1, ?_⟩
    refine rd ?_
    refine GM.nil ?_
    refine GD.done (by kernel_rfl) ?_
    refine rn ?_
    first | refine G.condD rfl (fun hc => ?_) (fun hc => ?_) | refine G.condN rfl (fun hc => ?_) (fun hc => ?_) | refine G.cond rfl (fun hc => ?_) (fun hc => ?_)
    · exfalso
      simp [hA2 y hmem] at hc
    refine rn ?_
    refine sAd tb ?_
    refine rn ?_
    exact G.lp (x := k) (k + 1) (by repeat (first | exact Sub.nil _ | refine Sub.cons rfl ?_)) ⟨hxY.trans hy1, by omega⟩ (by omega)
  clear hk
  refine rn ?_
  refine (G.loop (fun k : Nat => [(3, none, ptr w.heap.size), (5, none, ptr W2.heap.size), (6, none, ptr WB.heap.size), (8, none, ptr WE.heap.size), (11, none, .int .i64 k)]) (fun k W => Ext WG W ∧ k ≤ t.length) (fun k => t.length - k) 0 (by repeat (first | exact Sub.nil _ | refine Sub.cons rfl ?_)) ⟨hxW, Nat.zero_le _⟩ ?_)
  clear hxW h1 h2
  rintro k W ⟨hxW, hk⟩
  have h1 := hbtG.to hxW
  have h2 := hltG.to hxW
  refine rn ?_
  rw [List.length_map]
  refine rn ?_
  first | refine G.condD rfl (fun hc => ?_) (fun hc => ?_) | refine G.condN rfl (fun hc => ?_) (fun hc => ?_) | refine G.cond rfl (fun hc => ?_) (fun hc => ?_)
  rotate_left
  · refine rn ?_
    refine sCall c16 (wakes_okS W (hT.to (hx0G.trans hxW))) ?_
    rintro _ WH ⟨rfl, hxH⟩
    refine rn ?_
    refine G.ret1 rfl rfl rfl rfl ?_
    exact ⟨rfl, (hx0G.trans hxW).trans hxH⟩
  have hlt : k < t.length := by omega
  obtain ⟨y, hmem, hget, -, -, -⟩ := Lab.Labs.at hlt
  try (first | refine gl tb ?_ | refine gg tb ?_ | refine ll tb ?_ | refine lg tb ?_); repeat ((first | refine G.condT rfl ?_ | refine G.condF rfl ?_ | refine sFa tb ?_ | refine sLd tb ?_ | refine sLa tb ?_ | refine sLen tb ?_ | refine sFd tb ?_ | refine sBd tb ?_ | refine sIa tb k ?_); try (first | refine gl tb ?_ | refine gg tb ?_ | refine ll tb ?_ | refine lg tb ?_))
  refine sAl tb (fun WI hbI hsI hxI => ?_)
  refine sSt tb (vs := Lab.labC y) (fun WJ hbJ hwJ => ?_) (hv := rfl) (h1 := by simp [Value.oneCell', S, Lab.labC]) (hb := hbI)
  have hxWJ : Ext W WJ := Below.wr hxI hwJ (Nat.le_refl _)
  have hxJ := hxW.trans hxWJ
  clear hbI hwJ hxI
  refine rn ?_
  refine G.regionG (Ext WJ.drew) mixed (Ext.refl _) ?_
  have hxY := hxJ.drew'
  have hby := hbJ.to (Ext.drew WJ)
  generalize WJ.drew = Y at hxY hby
  have hbx := hbxG.to hxY
  have hbb := hbG.to hxY
  have hba := hbaG.to hxY
  have hlx := hlxG.to hxY
  have hlb := hlbG.to hxY
  have hla := hlaG.to hxY
  refine GD.steps ([(0, true), (1, true), (2, true), (3, true), (5, true), (6, true), (4, false), (7, true), (8, true), (9, true), (10, true), (11, true), (12, true), (13, false), (14, true), (15, true), (16, true), (17, true), (18, true), (19, true), (21, true), (22, true), (20, false), (23, true), (24, true), (25, true)]) (by kernel_rfl) (by kernel_rfl) rfl ?_
  refine rd ?_
  refine GM.eff (Step.callF rfl rfl rfl c11 rfl (Lab.refGet_ok _ vb y.1 Y hlb) ?_)
  rintro _ Y1 ⟨rfl, hy1⟩
  refine ⟨hy1, ?_⟩
  have hlx1 := hlx.to hy1
  have hla1 := hla.to hy1
  refine rd ?_
  refine GM.eff (Step.callX rfl rfl (by repeat (first | exact OpL.nil | refine OpL.cons (Op1.of rfl (by first | exact fun _ => rfl | exact fun h => h | exact fun h => bL h | exact fun h => bL (bL h) | exact fun h => bL (bL (bL h)))) ?_)) c11 rfl (fun hc => Lab.refGet_ok _ x y.1 Y1 hlx1) ?_)
  intro Y2 hy2
  have hy02 := hy1.trans hy2
  refine ⟨hy02, ?_⟩
  refine rd ?_
  refine GM.eff (Step.callX rfl rfl (by repeat (first | exact OpL.nil | refine OpL.cons (Op1.of rfl (by first | exact fun _ => rfl | exact fun h => h | exact fun h => bL h | exact fun h => bL (bL h) | exact fun h => bL (bL (bL h)))) ?_)) c11 rfl (fun hc => Lab.refGet_ok _ va y.1 Y2 (hla1.to hy2)) ?_)
  intro Y3 hy3
  have hy03 := hy02.trans hy3
  refine ⟨hy03, ?_⟩
  refine rd ?_
  refine GM.nil ?_
  refine GD.done (by kernel_rfl) ?_
  refine rn ?_
  first | refine G.condD rfl (fun hc => ?_) (fun hc => ?_) | refine G.condN rfl (fun hc => ?_) (fun hc => ?_) | refine G.cond rfl (fun hc => ?_) (fun hc => ?_)
  · exfalso
    have e1 := hB3 y hmem
    have e2 := hA3 y hmem
    by_cases h : Lab.getL x y.1 = []
    · simp [e1, e2 h] at hc
    · simp [e1, h] at hc
  clear hc
  have hx3 := hxY.trans hy03
  have hbx3 := hbxG.to hx3
  have hbb3 := hbG.to hx3
  have hby3 := hby.to hy03
  have hlx3 := hlxG.to hx3
  have hlb3 := hlbG.to hx3
  refine rn ?_
  refine sCall c11 (Lab.refGet_ok _ x y.1 Y3 hlx3) ?_
  rintro _ Y4 ⟨rfl, hy4⟩
  have hbb4 := hbb3.to hy4
  have hby4 := hby3.to hy4
  have hlb4 := hlb3.to hy4
  refine rn ?_
  have hyl := hts y hmem
  refine sCat tb ?_
  refine sCallx c11 (fun hc => Lab.refGet_ok _ vb (expS ++ y.1) Y4 hlb4) ?_
  intro Y5 hy5
  refine rn ?_
  first | refine G.condD rfl (fun hc => ?_) (fun hc => ?_) | refine G.condN rfl (fun hc => ?_) (fun hc => ?_) | refine G.cond rfl (fun hc => ?_) (fun hc => ?_)
  · exfalso
    by_cases h : Lab.getL x y.1 = []
    · simp [h] at hc
    · have e3 := hB5 y hmem h
      simp [h, e3] at hc
  have hx5 := (hx3.trans hy4).trans hy5
  refine rn ?_
  refine sAd tb ?_
  refine rn ?_
  exact G.lp (x := k) (k + 1) (by repeat (first | exact Sub.nil _ | refine Sub.cons rfl ?_)) ⟨hx5, by omega⟩ (by omega)
end Go.Proofs.YtmkckngecjpklaaGreatDoor
end
section
open Go Go.Vg Go.RowKit Go.Proofs Go.Proofs.YtmkckngecjpklaaGreatDoor
namespace Go.Proofs.YtmkckngecjpklaaGreatDoor
set_option linter.unusedSimpArgs false
open Go.Lib Go.Shelf Go.ChangeShapes Go.WideShapes Go.ChangeAt
theorem open_float1 {H : Type} {enc : TypeId × Value → H} {P : Program} {w : World} {base : Nat} {sp : Nat → Bool} {hd : Bool} {t n : Nat} {k : FloatKind} {cs : List Value} {x : DataW H × List MemPlace}
    (ht : P.underlying t = some (.float k)) (h : DataW.trod enc P w base sp hd n t cs = some x) : ∃ b : Nat, cs = [.float k b] := by
  cases n with
  | zero => simp [DataW.trod] at h
  | succ n =>
    unfold DataW.trod at h
    rw [ht] at h
    split at h <;> simp_all
theorem open_line {H : Type} {enc : TypeId × Value → H} {w : World} {sp : Nat → Bool} {hd : Bool} {b : Nat} {v : Value} {d : DataW H} {p : List MemPlace}
    (hval : OkW Tryz.prog w b 26 v) (h : DataW.Trod enc Tryz.prog w 0 sp hd 26 v d p) : ∃ (xv : Value) (f : Nat) (T : Int) (hasT : Bool) (ls : List Lab.Lab), v = .agg ⟨lineC xv f T hasT⟩ ∧ Lab.Labs w xv ls ∧ ∀ x ∈ ls, Lab.LabSz x := by
  obtain ⟨cs, n, rfl, hl, hf⟩ := open_aggN (tb.ok _ _ rfl) (by kernel_rfl) (m := 4) (by kernel_rfl) hval h
  match cs, hl with
  | [c0, c1, c2, c3], _ =>
    obtain ⟨y0, k0⟩ := hf 0 _ c0 rfl rfl
    obtain ⟨y1, k1⟩ := hf 1 _ c1 rfl rfl
    obtain ⟨y2, k2⟩ := hf 2 _ c2 rfl rfl
    obtain ⟨y3, k3⟩ := hf 3 _ c3 rfl rfl
    obtain ⟨m, hm, -⟩ := open_int1 (tb.ok _ _ rfl) k2
    simp only [List.cons.injEq, and_true] at hm
    subst hm
    have f0 : OkW Tryz.prog w b 23 c0 := field_ok (t := 26) (u := 23) (e := 78) (i := 0) (tb.ok 26 _ rfl) hval (ts := [23, 24, 3, 4]) (by kernel_rfl) rfl rfl (tb.ok 23 _ rfl)
    obtain ⟨a, h1, h2⟩ := open_lab1 f0 k0
    obtain ⟨fb, hfb⟩ := open_float1 (tb.ok _ _ rfl) k1
    simp only [List.cons.injEq, and_true] at hfb
    subst hfb
    obtain ⟨bb, hbb⟩ := open_bool1 (tb.ok _ _ rfl) k3
    simp only [List.cons.injEq, and_true] at hbb
    subst hbb
    exact ⟨c0, fb, m, bb, a, rfl, h1, h2⟩
end Go.Proofs.YtmkckngecjpklaaGreatDoor
end
section
open Go Go.Vg Go.RowKit Go.Proofs Go.Proofs.YtmkckngecjpklaaGreatDoor
namespace Go.Proofs.YtmkckngecjpklaaGreatDoor
set_option linter.unusedSimpArgs false
open Go.Lib Go.Shelf Go.ChangeShapes Go.WideShapes Go.ChangeAt

set_option maxRecDepth 100000 in
theorem contract_scrapeHonor (H : Type) (enc : TypeId × Value → H) (W : World) (base : Nat) (args : Array Value) (ds gs : List (DataW H)) (before : List MemPlace)
    (hval : ∀ (j : Nat) t v, Tryz.f7.params[j]? = some t → args[j]? = some v → Value.okWide Tryz.prog W .any base t v)
    (hW : DataW.Whole enc Tryz.prog Tryz.f7.params.toList Rows.scrapeHonorSpec.vars false W args.toList ds gs before) (hL : laidMetH Tryz.prog Rows.scrapeHonorRow.laid W) :
    Calls Tryz.prog 7 args W fun e W' => ∃ v, e = .returned v ∧ Rows.scrapeHonorSpec.post enc Tryz.prog Tryz.f7 false true false false W args v W' := by
  have hW' := hW
  obtain ⟨p, q, hA0, hV, rfl, hfz, hnd⟩ := hW
  have hA : DataW.TrodAll enc Tryz.prog W 0 (fun _ => true) true Tryz.f7.params.toList args.toList ds p := hA0
  rw [Tryz.params7] at hA hval
  obtain ⟨v0, vs0, d0, ds0, p0, q0, hargs, rfl, rfl, h0, r0⟩ := trodAll_cons hA
  obtain ⟨v1, vs1, d1, ds1, p1, q1, rfl, rfl, rfl, h1, r1⟩ := trodAll_cons r0
  obtain ⟨rfl, rfl, rfl⟩ := trodAll_nil r1
  obtain rfl : args = #[v0, v1] := by cases args; simp_all
  have k0 := OkW.mk (hval 0 _ v0 rfl rfl)
  have k1 := OkW.mk (hval 1 _ v1 rfl rfl)
  obtain ⟨x0, hx0, hz0⟩ := Lab.open_labs k0 h0
  obtain ⟨xv1, f1, T1, b1, x1, rfl, hx1, hz1⟩ := open_line k1 h1
  refine Calls.mono (honor_law v0 xv1 f1 T1 b1 x0 x1 W hx0 hz0 hx1 hz1 (tabs hL)) ?_
  rintro e W' ⟨v, rfl, rfl, hx⟩
  exact ⟨_, rfl, law_post laidOut (by kernel_rfl) (tb := 4) rfl (tb.ok _ _ rfl) rfl hW' rfl hx⟩
theorem reads_scrapeHonor (os : Os) {H : Type} (enc : TypeId × Value → H) : ∃ places, DataW.whole enc Tryz.prog ((laidWorld os).forCall (fun _ _ => 0) ⟨#[], #[.slice none 0 0, .agg #[.slice none 0 0, .float .f64 0, .int .i64 0, .bool false]], []⟩).memory Tryz.f7.params.toList Rows.scrapeHonorSpec.vars false #[.slice none 0 0, .agg #[.slice none 0 0, .float .f64 0, .int .i64 0, .bool false]].toList 8 = some ([.nil, .agg [.nil, .lit (.float .f64 0), .lit (.int .i64 0), .lit (.bool false)]], [], places) :=
  ⟨[], by kernel_rfl⟩
set_option maxRecDepth 100000 in
theorem lifted_scrapeHonor (os : Os) (started : os.Started) (H : Type) (enc : TypeId × Value → H) (F : Stop.Interp) :
    ReturnsInHanded {} Tryz.checked os 7 .any ((OpenSpec.ofChange Rows.scrapeHonorSpec).preRow enc Tryz.prog Tryz.f7 Rows.scrapeHonorRow.domain false Rows.scrapeHonorRow.laid) (((OpenSpec.ofChange Rows.scrapeHonorSpec).at F).post enc Tryz.prog Tryz.f7 false true false false) := by
  obtain ⟨places, hx⟩ := reads_scrapeHonor os enc
  refine returnsInHanded_of_row (C := Tryz.checked) (s := OpenSpec.ofChange Rows.scrapeHonorSpec) own started (by kernel_rfl) Tryz.func7
    (witness_row_at (enc := enc) (C := Tryz.checked) false (laidWorld os) #[.slice none 0 0, .agg #[.slice none 0 0, .float .f64 0, .int .i64 0, .bool false]] rfl (by kernel_rfl) (by kernel_rfl) (by kernel_rfl)
      (OpenSpec.preRow_of_cond 8 hx (by kernel_rfl) (fun k hk => by cases hk) (by kernel_rfl) (laid_met os _))) ?_
  intro W base args ds gs before hval hW _ _ _ hL _ _
  exact contract_scrapeHonor H enc W base args ds gs before hval hW hL
theorem kinPlace_scrapeHonor : (Rows.scrapeHonorRow.inPlace == Tryz.pinned.checked.prog.inPlace 7) = true := by kernel_rfl
theorem kunfollowed_scrapeHonor : (Rows.scrapeHonorRow.unfollowed == Tryz.pinned.checked.prog.unfollowed 7) = true := by kernel_rfl
theorem krecurses_scrapeHonor : (Rows.scrapeHonorRow.recurses == Tryz.pinned.checked.prog.recurses 7) = true := by kernel_rfl
theorem knamed_scrapeHonor : (Rows.scrapeHonorRow.named == Tryz.pinned.checked.prog.varsNamed 7) = true := by kernel_rfl
theorem kenter_scrapeHonor : Tryz.pinned.checked.prog.mayEnter = true := by kernel_rfl
theorem klifted_scrapeHonor : (Rows.scrapeHonorRow.lifted == Tryz.pinned.checked.prog.liftsFinal) = true := by kernel_rfl
theorem kmake_scrapeHonor : (Tryz.pinned.checked.prog.make == some Rows.scrapeHonorRow.make) = true := by kernel_rfl
theorem closed_scrapeHonor : joinedFacts Tryz.pinned.checked.prog 7 Tryz.f7 (OpenSpec.ofChange Rows.scrapeHonorSpec).bare Rows.scrapeHonorRow = true := by
  unfold joinedFacts
  rw [kinPlace_scrapeHonor, kunfollowed_scrapeHonor, krecurses_scrapeHonor, knamed_scrapeHonor, kenter_scrapeHonor, klifted_scrapeHonor, kmake_scrapeHonor]
  kernel_rfl
theorem said_scrapeHonor : Rows.ScrapeHonorSaid :=
  OpenClaim.holds_of_cond 7 Tryz.f7 rfl rfl rfl rfl rfl rfl rfl ⟨rfl, rfl, rfl, rfl, rfl⟩ rfl rfl rfl rfl rfl (by kernel_rfl) Tryz.func7 closed_scrapeHonor
    (of_decide_eq_true (by kernel_rfl)) (by unfold Func.isWrapper; first | (rw [if_pos (by decide +kernel)]; kernel_rfl) | (rw [if_neg (by decide +kernel)]; exact ⟨rfl, rfl⟩))
    (fun os started H enc _ F => by rw [OpenClaim.pre_eq_preRow]; exact lifted_scrapeHonor os started H enc F)
theorem plain_scrapeHonor (f : FuncId) (fn : Func) (hf : Tryz.pinned.checked.prog.funcNamed "vigil/vigillaw12.ScrapeHonor" = some f) (hfn : Tryz.pinned.checked.prog.funcs[f]? = some fn) :
    true = Tryz.pinned.checked.prog.looks [] ∧ ∀ (j : Nat) t, fn.params[j]? = some t → Tryz.pinned.checked.prog.wantsStandIn t = false := by
  obtain rfl : f = 7 := Option.some.inj ((show Tryz.prog.funcNamed "vigil/vigillaw12.ScrapeHonor" = some 7 by kernel_rfl).symm.trans hf) |>.symm
  obtain rfl : fn = Tryz.f7 := (Option.some.inj (Tryz.func7.symm.trans hfn)).symm
  refine ⟨by kernel_rfl, fun j t ht => ?_⟩
  rw [Tryz.params7] at ht
  have hm : t ∈ #[23, 26] := Array.mem_of_getElem? ht
  simp only [List.mem_toArray, List.mem_cons, List.not_mem_nil, or_false] at hm
  rcases hm with rfl | rfl
  · exact (show Tryz.prog.wantsStandIn 23 = false by kernel_rfl)
  · exact (show Tryz.prog.wantsStandIn 26 = false by kernel_rfl)
/-- Where a sample and its target both have a label the sample's stays if the job honors it, else the target's, and the sample's goes on under another name. -/
theorem ScrapeHonor_holds : Rows.ScrapeHonorCardSaid :=
  Claim7.holds_tied_plain_at .later [] _ _ _ _ said_scrapeHonor (fun _ h => by cases h) (by kernel_rfl) (fun _ h => by cases h) scrapeHonor_row_tie rfl ⟨rfl, rfl⟩ (by kernel_rfl) rfl plain_scrapeHonor (by kernel_rfl)
end Go.Proofs.YtmkckngecjpklaaGreatDoor
end
