/- wakes, walked. -/
import Derived.Test.YtlaingmhdgpkdaaGreatDoorZT
import Derived.Test.YtlaingmhdgpkdaaGreatDoorV28
import Derived.KernelRfl
open Go Go.Vg Go.RowKit Go.Proofs Go.Proofs.YtlaingmhdgpkdaaGreatDoor
namespace Go.Proofs.YtlaingmhdgpkdaaGreatDoor
set_option linter.unusedSimpArgs false

def wakeRaw : List UInt8 := [71, 69, 84, 32, 47, 97, 63, 120, 61, 49, 43, 50, 32, 72, 84, 84, 80, 47, 49, 46, 49, 13, 10, 13, 10]
theorem wake_read : readP wakeRaw = ((getS, [47, 97], [([120], [49, 32, 50])]), 200) := by decide +kernel
theorem wake_get : firstP (allP [([120], [49, 32, 50])] [120]) = [49, 32, 50] := by decide +kernel
theorem wakes_ok (w : World) (hM : MaxC w) (hT : Tabs w) : Ret Tryz.prog 10 ⟨[]⟩ w fun r w' => r = .bool true ∧ Ext w w' := by
  refine ret_of_G Tryz.func10 rfl Tryz.ntmps10 rfl ?_
  simp only [argEnv]
  try (first | refine gl tb ?_ | refine gg tb ?_ | refine ll tb ?_ | refine lg tb ?_); repeat ((first | refine G.condT rfl ?_ | refine G.condF rfl ?_ | refine sFa tb ?_ | refine sLd tb ?_ | refine sLa tb ?_ | refine sLen tb ?_ | refine sFd tb ?_ | refine sBd tb ?_ | refine sBa tb ?_); try (first | refine gl tb ?_ | refine gg tb ?_ | refine ll tb ?_ | refine lg tb ?_))
  refine sBs' tb (bysC wakeRaw) ?_ (hkl := bysC_k _)
  intro v1 w1 ho1 hs1 hx1
  refine GL.cons (Step.markS tb rfl (Op1.of rfl (by first | exact fun _ => rfl | exact fun h => h | exact fun h => bL h | exact fun h => bL (bL h) | exact fun h => bL (bL (bL h)))) rfl rfl ho1 (by decide) rfl ?_)
  intro w2 hv2 hx2
  have hx02 : Ext w w2 := Below.trans hx1 hx2
  try (first | refine gl tb ?_ | refine gg tb ?_ | refine ll tb ?_ | refine lg tb ?_); repeat ((first | refine G.condT rfl ?_ | refine G.condF rfl ?_ | refine sFa tb ?_ | refine sLd tb ?_ | refine sLa tb ?_ | refine sLen tb ?_ | refine sFd tb ?_ | refine sBd tb ?_ | refine sBa tb ?_); try (first | refine gl tb ?_ | refine gg tb ?_ | refine ll tb ?_ | refine lg tb ?_))
  refine sCall c33 (read_ok v1 wakeRaw w2 hv2 (hM.to hx02) (hT.to hx02)) ?_
  rw [wake_read]
  rintro r w3 ⟨hx3, u, rfl, hu⟩
  have hx03 := hx02.trans hx3
  try (first | refine gl tb ?_ | refine gg tb ?_ | refine ll tb ?_ | refine lg tb ?_); repeat ((first | refine G.condT rfl ?_ | refine G.condF rfl ?_ | refine sFa tb ?_ | refine sLd tb ?_ | refine sLa tb ?_ | refine sLen tb ?_ | refine sFd tb ?_ | refine sBd tb ?_ | refine sBa tb ?_); try (first | refine gl tb ?_ | refine gg tb ?_ | refine ll tb ?_ | refine lg tb ?_))
  refine sAl tb ?_
  intro w4 hb4 hs4 hx4
  refine sSt tb ?_ (vs := reqC getS [47, 97] u) (hv := rfl) (hb := hb4) (h1 := by
    have := hu.one
    simp only [reqC, List.mem_cons, List.not_mem_nil, or_false]
    rintro x (rfl | rfl | rfl)
    · rfl
    · rfl
    · exact this _ (by simp))
  intro w5 hb5 hw5
  have hx45 : Ext w3 w5 := Below.wr hx4 hw5 (Nat.le_refl _)
  have hx05 := hx03.trans hx45
  have hu5 := hu.to hx45
  try (first | refine gl tb ?_ | refine gg tb ?_ | refine ll tb ?_ | refine lg tb ?_); repeat ((first | refine G.condT rfl ?_ | refine G.condF rfl ?_ | refine sFa tb ?_ | refine sLd tb ?_ | refine sLa tb ?_ | refine sLen tb ?_ | refine sFd tb ?_ | refine sBd tb ?_ | refine sBa tb ?_); try (first | refine gl tb ?_ | refine gg tb ?_ | refine ll tb ?_ | refine lg tb ?_))
  refine sCallx (vs := [.agg ⟨reqC getS [47, 97] u⟩, S [120]]) c34 (fun _ => get_ok getS [47, 97] [120] u [([120], [49, 32, 50])] w5 hu5 (by simp)) ?_
  rw [wake_get]
  intro w6 hx6
  try (first | refine gl tb ?_ | refine gg tb ?_ | refine ll tb ?_ | refine lg tb ?_); repeat ((first | refine G.condT rfl ?_ | refine G.condF rfl ?_ | refine sFa tb ?_ | refine sLd tb ?_ | refine sLa tb ?_ | refine sLen tb ?_ | refine sFd tb ?_ | refine sBd tb ?_ | refine sBa tb ?_); try (first | refine gl tb ?_ | refine gg tb ?_ | refine ll tb ?_ | refine lg tb ?_))
  refine GL.cons (Step.on rfl rfl (Step.callF rfl rfl rfl c16 rfl (answer_ok 404 [120] w6 (by decide) (by decide) (by decide)) ?_))
  rintro r w7 ⟨hr, hx7⟩
  refine sByS tb hr ?_
  try (first | refine gl tb ?_ | refine gg tb ?_ | refine ll tb ?_ | refine lg tb ?_); repeat ((first | refine G.condT rfl ?_ | refine G.condF rfl ?_ | refine sFa tb ?_ | refine sLd tb ?_ | refine sLa tb ?_ | refine sLen tb ?_ | refine sFd tb ?_ | refine sBd tb ?_ | refine sBa tb ?_); try (first | refine gl tb ?_ | refine gg tb ?_ | refine ll tb ?_ | refine lg tb ?_))
  refine G.ret1 rfl rfl rfl rfl ?_
  exact ⟨congrArg Value.bool (by decide +kernel), (hx05.trans hx6).trans hx7⟩
end Go.Proofs.YtlaingmhdgpkdaaGreatDoor
