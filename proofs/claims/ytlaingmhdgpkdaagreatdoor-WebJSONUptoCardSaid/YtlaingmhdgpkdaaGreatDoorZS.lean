/- UTF-8 of parameters, walked. -/
import Derived.Test.YtlaingmhdgpkdaaGreatDoorZR
import Derived.Test.YtlaingmhdgpkdaaGreatDoorZShV
open Go Go.Vg Go.RowKit Go.Proofs Go.Proofs.YtlaingmhdgpkdaaGreatDoor
namespace Go.Proofs.YtlaingmhdgpkdaaGreatDoor
set_option linter.unusedSimpArgs false

abbrev Tabs (w : World) : Prop := Lib.Utf8Tabs (Tryz.laysValid_ren.g 3) (Tryz.laysValid_ren.g 4) w
theorem validS_ok (s : List UInt8) (w : World) (hs : s.length ≤ 9223372036854775807) (hT : Tabs w) :
    Ret Tryz.prog 101 ⟨[S s]⟩ w fun v w' => v = .bool (Lib.validD s) ∧ Ext w w' :=
  Calls.mono (Any.utf8_ValidString Tryz.laysValid ⟨⟨s⟩⟩ w hs hT) fun _ _ ⟨he, hb⟩ => ⟨_, he, rfl, hb⟩
theorem Tabs.to {w w' : World} (h : Tabs w) (hx : Ext w w') : Tabs w' := Utf8Tabs_below h hx
def vLab (x : Lab) : Bool := Lib.validD x.1 && Lib.validD x.2
/-- is all of it UTF-8? -/
def textP (s : List UInt8) (ls : List Lab) : Bool := ls.all vLab && Lib.validD s
theorem text_ok (s : List UInt8) (v : Value) (ls : List Lab) (w : World) (hs : s.length ≤ 4000000000) (hv : Labs w v ls) (hl : ∀ x ∈ ls, x.1.length ≤ 4000000000 ∧ x.2.length ≤ 4000000000) (hT : Tabs w) :
    Ret Tryz.prog 58 ⟨[S s, v]⟩ w fun r w' => r = .bool (textP s ls) ∧ Ext w w' := by
  have hbd := Labs.bound hv
  refine ret_of_G Tryz.func58 rfl Tryz.ntmps58 rfl ?_
  simp only [argEnv]
  try (first | refine gl tb ?_ | refine gg tb ?_ | refine ll tb ?_ | refine lg tb ?_); repeat ((first | refine G.condT rfl ?_ | refine G.condF rfl ?_ | refine sFa tb ?_ | refine sLd tb ?_ | refine sLa tb ?_ | refine sLen tb ?_ | refine sFd tb ?_ | refine sBd tb ?_ | refine sBa tb ?_); try (first | refine gl tb ?_ | refine gg tb ?_ | refine ll tb ?_ | refine lg tb ?_))
  rw [List.length_map]
  try (first | refine gl tb ?_ | refine gg tb ?_ | refine ll tb ?_ | refine lg tb ?_); repeat ((first | refine G.condT rfl ?_ | refine G.condF rfl ?_ | refine sFa tb ?_ | refine sLd tb ?_ | refine sLa tb ?_ | refine sLen tb ?_ | refine sFd tb ?_ | refine sBd tb ?_ | refine sBa tb ?_); try (first | refine gl tb ?_ | refine gg tb ?_ | refine ll tb ?_ | refine lg tb ?_))
  refine (G.loop (fun k : Nat => [(0, none, S s), (7, none, v), (8, none, .int .i64 ls.length), (9, none, .int .i64 k)]) (fun k W => Ext w W ∧ k ≤ ls.length ∧ (ls.take k).all vLab = true) (fun k => ls.length - k) 0 (by repeat (first | exact Sub.nil _ | refine Sub.cons rfl ?_)) ⟨Ext.refl _, by omega, by simp⟩ ?_)
  rintro k W ⟨hx, hk, hall⟩
  have hvW := hv.to hx
  try (first | refine gl tb ?_ | refine gg tb ?_ | refine ll tb ?_ | refine lg tb ?_); repeat ((first | refine G.condT rfl ?_ | refine G.condF rfl ?_ | refine sFa tb ?_ | refine sLd tb ?_ | refine sLa tb ?_ | refine sLen tb ?_ | refine sFd tb ?_ | refine sBd tb ?_ | refine sBa tb ?_); try (first | refine gl tb ?_ | refine gg tb ?_ | refine ll tb ?_ | refine lg tb ?_))
  first | refine G.condD rfl (fun hc => ?_) (fun hc => ?_) | refine G.condN rfl (fun hc => ?_) (fun hc => ?_) | refine G.cond rfl (fun hc => ?_) (fun hc => ?_)
  · have hlt : k < ls.length := by omega
    obtain ⟨x, hmem, hget, htk, hdk, -⟩ := Labs.at hlt
    have hxl := hl x hmem
    have hTW := hT.to hx
    try (first | refine gl tb ?_ | refine gg tb ?_ | refine ll tb ?_ | refine lg tb ?_); repeat ((first | refine G.condT rfl ?_ | refine G.condF rfl ?_ | refine sFa tb ?_ | refine sLd tb ?_ | refine sLa tb ?_ | refine sLen tb ?_ | refine sFd tb ?_ | refine sBd tb ?_ | refine sIa tb k ?_); try (first | refine gl tb ?_ | refine gg tb ?_ | refine ll tb ?_ | refine lg tb ?_))
    refine sAl tb ?_
    intro w3 hb3 hs3 hx3
    refine sSt tb ?_ (vs := labC x) (hv := rfl) (hb := hb3) (h1 := by simp [Value.oneCell', S, labC])
    intro w4 hb4 hw4
    have hx24 : Ext W w4 := Below.wr hx3 hw4 (Nat.le_refl _)
    have hx4 := hx.trans hx24
    try (first | refine gl tb ?_ | refine gg tb ?_ | refine ll tb ?_ | refine lg tb ?_); repeat ((first | refine G.condT rfl ?_ | refine G.condF rfl ?_ | refine sFa tb ?_ | refine sLd tb ?_ | refine sLa tb ?_ | refine sLen tb ?_ | refine sFd tb ?_ | refine sBd tb ?_ | refine sBa tb ?_); try (first | refine gl tb ?_ | refine gg tb ?_ | refine ll tb ?_ | refine lg tb ?_))
    refine sCallx c101 (fun hc => validS_ok x.1 w4 (by omega) (hT.to hx4)) ?_
    intro w5 hx5
    have hb5 := hb4.to hx5
    try (first | refine gl tb ?_ | refine gg tb ?_ | refine ll tb ?_ | refine lg tb ?_); repeat ((first | refine G.condT rfl ?_ | refine G.condF rfl ?_ | refine sFa tb ?_ | refine sLd tb ?_ | refine sLa tb ?_ | refine sLen tb ?_ | refine sFd tb ?_ | refine sBd tb ?_ | refine sBa tb ?_); try (first | refine gl tb ?_ | refine gg tb ?_ | refine ll tb ?_ | refine lg tb ?_))
    refine sCallx c101 (fun hc => validS_ok x.2 w5 (by omega) (hT.to (hx4.trans hx5))) ?_
    intro w6 hx6
    have hxE := (hx4.trans hx5).trans hx6
    try (first | refine gl tb ?_ | refine gg tb ?_ | refine ll tb ?_ | refine lg tb ?_); repeat ((first | refine G.condT rfl ?_ | refine G.condF rfl ?_ | refine sFa tb ?_ | refine sLd tb ?_ | refine sLa tb ?_ | refine sLen tb ?_ | refine sFd tb ?_ | refine sBd tb ?_ | refine sBa tb ?_); try (first | refine gl tb ?_ | refine gg tb ?_ | refine ll tb ?_ | refine lg tb ?_))
    first | refine G.condD rfl (fun hc => ?_) (fun hc => ?_) | refine G.condN rfl (fun hc => ?_) (fun hc => ?_) | refine G.cond rfl (fun hc => ?_) (fun hc => ?_)
    · have hn : vLab x = false := by
        unfold vLab
        simp only [Bool.or_eq_true, Bool.not_eq_true'] at hc
        rcases hc with h | h <;> rw [h] <;> simp
      have hno : textP s ls = false := by
        unfold textP
        have : ls.all vLab = false := by
          rw [List.all_eq_false]
          exact ⟨x, hmem, by rw [hn]; simp⟩
        rw [this]; rfl
      try (first | refine gl tb ?_ | refine gg tb ?_ | refine ll tb ?_ | refine lg tb ?_); repeat ((first | refine G.condT rfl ?_ | refine G.condF rfl ?_ | refine sFa tb ?_ | refine sLd tb ?_ | refine sLa tb ?_ | refine sLen tb ?_ | refine sFd tb ?_ | refine sBd tb ?_ | refine sBa tb ?_); try (first | refine gl tb ?_ | refine gg tb ?_ | refine ll tb ?_ | refine lg tb ?_))
      refine G.ret1 rfl rfl rfl rfl ?_
      exact ⟨by rw [hno], hxE⟩
    · have hn : vLab x = true := by
        unfold vLab
        simp only [Bool.or_eq_false_iff, Bool.not_eq_false'] at hc
        rw [hc.1, hc.2]; rfl
      try (first | refine gl tb ?_ | refine gg tb ?_ | refine ll tb ?_ | refine lg tb ?_); repeat ((first | refine G.condT rfl ?_ | refine G.condF rfl ?_ | refine sFa tb ?_ | refine sLd tb ?_ | refine sLa tb ?_ | refine sLen tb ?_ | refine sFd tb ?_ | refine sBd tb ?_ | refine sBa tb ?_); try (first | refine gl tb ?_ | refine gg tb ?_ | refine ll tb ?_ | refine lg tb ?_))
      refine sAd tb ?_
      try (first | refine gl tb ?_ | refine gg tb ?_ | refine ll tb ?_ | refine lg tb ?_); repeat ((first | refine G.condT rfl ?_ | refine G.condF rfl ?_ | refine sFa tb ?_ | refine sLd tb ?_ | refine sLa tb ?_ | refine sLen tb ?_ | refine sFd tb ?_ | refine sBd tb ?_ | refine sBa tb ?_); try (first | refine gl tb ?_ | refine gg tb ?_ | refine ll tb ?_ | refine lg tb ?_))
      exact G.lp (k + 1) (by repeat (first | exact Sub.nil _ | refine Sub.cons rfl ?_)) ⟨hxE, by omega, by rw [htk, List.all_append, hall]; simp [hn]⟩ (by omega)
  · have hk' : k = ls.length := by omega
    rw [hk', List.take_length] at hall
    try (first | refine gl tb ?_ | refine gg tb ?_ | refine ll tb ?_ | refine lg tb ?_); repeat ((first | refine G.condT rfl ?_ | refine G.condF rfl ?_ | refine sFa tb ?_ | refine sLd tb ?_ | refine sLa tb ?_ | refine sLen tb ?_ | refine sFd tb ?_ | refine sBd tb ?_ | refine sBa tb ?_); try (first | refine gl tb ?_ | refine gg tb ?_ | refine ll tb ?_ | refine lg tb ?_))
    refine sCallx c101 (fun hc => validS_ok s W (by omega) (hT.to hx)) ?_
    intro W2 hx2
    try (first | refine gl tb ?_ | refine gg tb ?_ | refine ll tb ?_ | refine lg tb ?_); repeat ((first | refine G.condT rfl ?_ | refine G.condF rfl ?_ | refine sFa tb ?_ | refine sLd tb ?_ | refine sLa tb ?_ | refine sLen tb ?_ | refine sFd tb ?_ | refine sBd tb ?_ | refine sBa tb ?_); try (first | refine gl tb ?_ | refine gg tb ?_ | refine ll tb ?_ | refine lg tb ?_))
    refine G.ret1 rfl rfl rfl rfl ?_
    exact ⟨by unfold textP; rw [hall]; rfl, hx.trans hx2⟩
end Go.Proofs.YtlaingmhdgpkdaaGreatDoor
