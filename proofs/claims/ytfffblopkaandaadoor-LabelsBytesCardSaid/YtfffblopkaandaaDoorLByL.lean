/- LabelsBytes, walked. -/
import Derived.Test.YtfffblopkaandaaDoorLBy
import Derived.Test.YtfffblopkaandaaDoorLEq
import Derived.Test.YtfffblopkaandaaDoorLK
open Go Go.Vg Go.RowKit Go.Proofs Go.Proofs.YtfffblopkaandaaDoor
namespace Go.Proofs.YtfffblopkaandaaDoor
set_option linter.unusedSimpArgs false

theorem bytes_law (v0 v1 : Value) (l0 l1 : List Lab) (w : World) (h0 : Labs w v0 l0) (h1 : Labs w v1 l1) (z0 : ∀ x ∈ l0, LabSz x) (z1 : ∀ x ∈ l1, LabSz x) (hT : Tabs w) :
    Ret Tryd.prog 9 ⟨[v0, v1]⟩ w fun r w' => r = .bool true ∧ Ext w w' := by
  refine ret_of_G Tryd.func9 rfl Tryd.ntmps9 rfl ?_
  simp only [argEnv]
  try (first | refine gl tb ?_ | refine gg tb ?_ | refine ll tb ?_ | refine lg tb ?_); repeat ((first | refine G.condT rfl ?_ | refine G.condF rfl ?_ | refine sFa tb ?_ | refine sLd tb ?_ | refine sLa tb ?_ | refine sLen tb ?_ | refine sFd tb ?_ | refine sBd tb ?_ | refine sBa tb ?_); try (first | refine gl tb ?_ | refine gg tb ?_ | refine ll tb ?_ | refine lg tb ?_))
  refine sCall c12 (set_ok v0 l0 w h0 z0) ?_
  rintro a w1 ⟨ha, hx1⟩
  try (first | refine gl tb ?_ | refine gg tb ?_ | refine ll tb ?_ | refine lg tb ?_); repeat ((first | refine G.condT rfl ?_ | refine G.condF rfl ?_ | refine sFa tb ?_ | refine sLd tb ?_ | refine sLa tb ?_ | refine sLen tb ?_ | refine sFd tb ?_ | refine sBd tb ?_ | refine sBa tb ?_); try (first | refine gl tb ?_ | refine gg tb ?_ | refine ll tb ?_ | refine lg tb ?_))
  refine sCall c12 (set_ok v1 l1 w1 (h1.to hx1) z1) ?_
  rintro b w2 ⟨hb, hx2⟩
  have hrx := setN_right l0
  have hry := setN_right l1
  obtain ⟨hsx, hlx, hnx, hzx⟩ := right_small hrx
  obtain ⟨hsy, hly, hny, hzy⟩ := right_small hry
  generalize setN l0 = x at ha hrx hsx hlx hnx hzx
  generalize setN l1 = y at hb hry hsy hly hny hzy
  have ha2 := ha.to hx2
  have hx02 := hx1.trans hx2
  clear ha hx1 hx2 h0 h1 z0 z1
  try (first | refine gl tb ?_ | refine gg tb ?_ | refine ll tb ?_ | refine lg tb ?_); repeat ((first | refine G.condT rfl ?_ | refine G.condF rfl ?_ | refine sFa tb ?_ | refine sLd tb ?_ | refine sLa tb ?_ | refine sLen tb ?_ | refine sFd tb ?_ | refine sBd tb ?_ | refine sBa tb ?_); try (first | refine gl tb ?_ | refine gg tb ?_ | refine ll tb ?_ | refine lg tb ?_))
  refine sCall c37 (bytes_ok a x w2 ha2.sli hsx) ?_
  rintro p w3 ⟨hp, hx3⟩
  try (first | refine gl tb ?_ | refine gg tb ?_ | refine ll tb ?_ | refine lg tb ?_); repeat ((first | refine G.condT rfl ?_ | refine G.condF rfl ?_ | refine sFa tb ?_ | refine sLd tb ?_ | refine sLa tb ?_ | refine sLen tb ?_ | refine sFd tb ?_ | refine sBd tb ?_ | refine sBa tb ?_); try (first | refine gl tb ?_ | refine gg tb ?_ | refine ll tb ?_ | refine lg tb ?_))
  refine sCall c37 (bytes_ok b y w3 (hb.to hx3).sli hsy) ?_
  rintro q w4 ⟨hq, hx4⟩
  have hx24 := hx3.trans hx4
  have ha4 := ha2.to hx24
  have hb4 := hb.to hx24
  have hp4 := hp.to hx4
  have hap := ha2.apart hp
  have hx04 := hx02.trans hx24
  have hinj := enc_inj hrx hry hlx hly hnx hny
  try (first | refine gl tb ?_ | refine gg tb ?_ | refine ll tb ?_ | refine lg tb ?_); repeat ((first | refine G.condT rfl ?_ | refine G.condF rfl ?_ | refine sFa tb ?_ | refine sLd tb ?_ | refine sLa tb ?_ | refine sLen tb ?_ | refine sFd tb ?_ | refine sBd tb ?_ | refine sBa tb ?_); try (first | refine gl tb ?_ | refine gg tb ?_ | refine ll tb ?_ | refine lg tb ?_))
  refine G.regionG (Ext w4) mixed (Ext.drew w4) ?_
  have hx5 := Ext.drew w4
  generalize w4.drew = w5 at hx5 ⊢
  refine GD.steps ([(0, true), (1, true), (2, true), (3, false), (4, false), (5, true), (6, true), (7, true), (9, true), (8, false), (10, false), (11, true), (12, true), (13, true), (14, true), (15, true), (16, true), (17, true), (18, true), (19, true), (20, true), (21, false), (22, true), (23, true)]) (by kernel_rfl) (by kernel_rfl) rfl ?_
  · try (refine mm tb ?_); repeat ((first | refine dFa tb ?_ | refine dLd tb ?_ | refine dLa tb ?_ | refine dLen tb ?_ | refine dFd tb ?_); try (refine mm tb ?_))
    refine GM.read (fun w' hS => Step.bytesS tb rfl (Op1.of rfl (by first | exact fun _ => rfl | exact fun h => h | exact fun h => bL h | exact fun h => bL (bL h) | exact fun h => bL (bL (bL h)))) rfl rfl rfl (fun _ => (hp4.sli).to hS) rfl ⟨rfl, rfl⟩) rfl rfl ?_
    try (refine mm tb ?_); repeat ((first | refine dFa tb ?_ | refine dLd tb ?_ | refine dLa tb ?_ | refine dLen tb ?_ | refine dFd tb ?_); try (refine mm tb ?_))
    refine GM.eff (Step.callF rfl rfl rfl c38 rfl (refBytes_ok a x w5 (ha4.to hx5).sli hsx) ?_)
    rintro r1 w6 ⟨hr1, hx6⟩
    have hx6 := hx5.trans hx6
    refine ⟨hx6, ?_⟩
    refine GM.eff (Step.bytesS tb rfl (Op1.of rfl (by first | exact fun _ => rfl | exact fun h => h | exact fun h => bL h | exact fun h => bL (bL h) | exact fun h => bL (bL (bL h)))) rfl rfl rfl (fun _ => hr1.sli) rfl ⟨hx6, ?_⟩)
    try (refine mm tb ?_); repeat ((first | refine dFa tb ?_ | refine dLd tb ?_ | refine dLa tb ?_ | refine dLen tb ?_ | refine dFd tb ?_); try (refine mm tb ?_))
    rw [show (!decide (encL x = encL x)) = false by simp]
    refine GM.eff (Step.callX rfl rfl (by repeat (first | exact OpL.nil | refine OpL.cons (Op1.of rfl (by first | exact fun _ => rfl | exact fun h => h | exact fun h => bL h | exact fun h => bL (bL h) | exact fun h => bL (bL (bL h)))) ?_)) c30 rfl (fun hc => hash_ok a x w6 (ha4.to hx6).sli hsx) ?_)
    intro w7 hx7
    have hx7 := Ext.trans hx6 hx7
    refine ⟨hx7, ?_⟩
    refine GM.eff (Step.callX rfl rfl (by repeat (first | exact OpL.nil | refine OpL.cons (Op1.of rfl (by first | exact fun _ => rfl | exact fun h => h | exact fun h => bL h | exact fun h => bL (bL h) | exact fun h => bL (bL (bL h)))) ?_)) c39 rfl (fun hc => refHash_ok a x w7 (ha4.to hx7).sli hsx) ?_)
    intro w6 hx8
    have hx6 := Ext.trans hx7 hx8
    refine ⟨hx6, ?_⟩
    try (refine mm tb ?_); repeat ((first | refine dFa tb ?_ | refine dLd tb ?_ | refine dLa tb ?_ | refine dLen tb ?_ | refine dFd tb ?_); try (refine mm tb ?_))
    refine GM.read (fun w' hS => Step.bytesS tb rfl (Op1.of rfl (by first | exact fun _ => rfl | exact fun h => h | exact fun h => bL h | exact fun h => bL (bL h) | exact fun h => bL (bL (bL h)))) rfl rfl rfl (fun _ => (hp4.sli).to hS) rfl ⟨rfl, rfl⟩) rfl rfl ?_
    try (refine mm tb ?_); repeat ((first | refine dFa tb ?_ | refine dLd tb ?_ | refine dLa tb ?_ | refine dLen tb ?_ | refine dFd tb ?_); try (refine mm tb ?_))
    refine GM.read (fun w' hS => Step.bytesS tb rfl (Op1.of rfl (by first | exact fun _ => rfl | exact fun h => h | exact fun h => bL h | exact fun h => bL (bL h) | exact fun h => bL (bL (bL h)))) rfl rfl rfl (fun _ => (hq.sli).to hS) rfl ⟨rfl, rfl⟩) rfl rfl ?_
    try (refine mm tb ?_); repeat ((first | refine dFa tb ?_ | refine dLd tb ?_ | refine dLa tb ?_ | refine dLen tb ?_ | refine dFd tb ?_); try (refine mm tb ?_))
    refine GM.eff (Step.callX rfl rfl (by repeat (first | exact OpL.nil | refine OpL.cons (Op1.of rfl (by first | exact fun _ => rfl | exact fun h => h | exact fun h => bL h | exact fun h => bL (bL h) | exact fun h => bL (bL (bL h)))) ?_)) c21 rfl (fun hc => keepLabels_ok a b x y w6 (ha4.to hx6).sli (hb4.to hx6).sli) ?_)
    intro w7 hx7
    have hx7 := Ext.trans hx6 hx7
    refine ⟨hx7, ?_⟩
    rw [hinj]
    try (refine mm tb ?_); repeat ((first | refine dFa tb ?_ | refine dLd tb ?_ | refine dLa tb ?_ | refine dLen tb ?_ | refine dFd tb ?_); try (refine mm tb ?_))
    refine GM.nil ?_
    refine GD.done (by kernel_rfl) ?_
    try (first | refine gl tb ?_ | refine gg tb ?_ | refine ll tb ?_ | refine lg tb ?_); repeat ((first | refine G.condT rfl ?_ | refine G.condF rfl ?_ | refine sFa tb ?_ | refine sLd tb ?_ | refine sLa tb ?_ | refine sLen tb ?_ | refine sFd tb ?_ | refine sBd tb ?_ | refine sBa tb ?_); try (first | refine gl tb ?_ | refine gg tb ?_ | refine ll tb ?_ | refine lg tb ?_))
    first | refine G.condD rfl (fun hc => ?_) (fun hc => ?_) | refine G.condN rfl (fun hc => ?_) (fun hc => ?_) | refine G.cond rfl (fun hc => ?_) (fun hc => ?_)
    · exact absurd hc (by simp)
    · clear hc
      have hx07 := Ext.trans hx04 hx7
      have ha7 := ha4.to hx7
      have hp7 := hp4.to hx7
      try (first | refine gl tb ?_ | refine gg tb ?_ | refine ll tb ?_ | refine lg tb ?_); repeat ((first | refine G.condT rfl ?_ | refine G.condF rfl ?_ | refine sFa tb ?_ | refine sLd tb ?_ | refine sLa tb ?_ | refine sLen tb ?_ | refine sFd tb ?_ | refine sBd tb ?_ | refine sBa tb ?_); try (first | refine gl tb ?_ | refine gg tb ?_ | refine ll tb ?_ | refine lg tb ?_))
      refine sCall c34 (read_ok p (encL x) w7 hp7.sli (hT.to hx07)) ?_
      intro r w8 hr
      rw [readL_enc x hrx hlx hnx] at hr
      obtain ⟨s, hx8, rfl, hs, -⟩ := hr
      have hx08 := hx07.trans hx8
      have ha8 := ha7.to hx8
      have hp8 := hp7.to hx8
      try (first | refine gl tb ?_ | refine gg tb ?_ | refine ll tb ?_ | refine lg tb ?_); repeat ((first | refine G.condT rfl ?_ | refine G.condF rfl ?_ | refine sFa tb ?_ | refine sLd tb ?_ | refine sLa tb ?_ | refine sLen tb ?_ | refine sFd tb ?_ | refine sBd tb ?_ | refine sBa tb ?_); try (first | refine gl tb ?_ | refine gg tb ?_ | refine ll tb ?_ | refine lg tb ?_))
      refine sCallx c21 (fun hc => keepLabels_ok s a x x w8 hs.sli ha8.sli) ?_
      intro w9 hx9
      have heq : eqN x x = true := by simp [eqN]
      rw [heq]
      have hx09 := hx08.trans hx9
      have ha9 := ha8.to hx9
      have hp9 := hp8.to hx9
      try (first | refine gl tb ?_ | refine gg tb ?_ | refine ll tb ?_ | refine lg tb ?_); repeat ((first | refine G.condT rfl ?_ | refine G.condF rfl ?_ | refine sFa tb ?_ | refine sLd tb ?_ | refine sLa tb ?_ | refine sLen tb ?_ | refine sFd tb ?_ | refine sBd tb ?_ | refine sBa tb ?_); try (first | refine gl tb ?_ | refine gg tb ?_ | refine ll tb ?_ | refine lg tb ?_))
      · have henc : (encL x).length ≤ 100000000000 := by
          have := flat_take hsx x.length
          rw [List.take_length] at this
          simp only [encL, List.length_cons]; omega
        try (first | refine gl tb ?_ | refine gg tb ?_ | refine ll tb ?_ | refine lg tb ?_); repeat ((first | refine G.condT rfl ?_ | refine G.condF rfl ?_ | refine sFa tb ?_ | refine sLd tb ?_ | refine sLa tb ?_ | refine sLen tb ?_ | refine sFd tb ?_ | refine sBd tb ?_ | refine sBa tb ?_); try (first | refine gl tb ?_ | refine gg tb ?_ | refine ll tb ?_ | refine lg tb ?_))
        refine sCall c40 (spoilBytes_ok p (encL x) w2.heap.size w9 hp9 henc (by have := hx3.size; have := hx4.size; have := hx7.size; have := hx8.size; have := hx9.size; omega)) ?_
        intro r w10 hg10
        have ha10 := ha9.grew hg10 (fun q hq e => hap q e hq)
        have hx010 : Ext w w10 := below_of hg10 hx09 hx02.size
        try (first | refine gl tb ?_ | refine gg tb ?_ | refine ll tb ?_ | refine lg tb ?_); repeat ((first | refine G.condT rfl ?_ | refine G.condF rfl ?_ | refine sFa tb ?_ | refine sLd tb ?_ | refine sLa tb ?_ | refine sLen tb ?_ | refine sFd tb ?_ | refine sBd tb ?_ | refine sBa tb ?_); try (first | refine gl tb ?_ | refine gg tb ?_ | refine ll tb ?_ | refine lg tb ?_))
        refine G.regionG (Ext w10) mixed (Ext.drew w10) ?_
        have hx11 := Ext.drew w10
        generalize w10.drew = w11 at hx11 ⊢
        have ha11 := ha10.to hx11
        refine GD.steps ([(0, true), (3, true), (1, false)]) (by kernel_rfl) (by kernel_rfl) rfl ?_
        · try (refine mm tb ?_); repeat ((first | refine dFa tb ?_ | refine dLd tb ?_ | refine dLa tb ?_ | refine dLen tb ?_ | refine dFd tb ?_); try (refine mm tb ?_))
          refine GM.eff (Step.callF rfl rfl rfl c37 rfl (bytes_ok a x w11 ha11.sli hsx) ?_)
          rintro r1 w12 ⟨hr1, hx12⟩
          have hx12' := hx11.trans hx12
          refine ⟨hx12', ?_⟩
          refine GM.nil ?_
          refine GD.change (Ext w12) (fun w' h => hx12'.trans h) (Ext.refl _) ?_
          refine GD.steps ([(2, true), (4, false), (5, false), (6, true), (7, true), (8, false), (9, true), (10, true)]) (by kernel_rfl) (by kernel_rfl) rfl ?_
          refine GM.read (fun w' hS => Step.bytesS tb rfl (Op1.of rfl (by first | exact fun _ => rfl | exact fun h => h | exact fun h => bL h | exact fun h => bL (bL h) | exact fun h => bL (bL (bL h)))) rfl rfl rfl (fun _ => (hr1.sli).to hS) rfl ⟨rfl, rfl⟩) rfl rfl ?_
          refine GM.eff (Step.callF rfl rfl rfl c38 rfl (refBytes_ok a x w12 (ha11.to hx12).sli hsx) ?_)
          rintro r2 w13' ⟨hr2, hx13⟩
          refine ⟨hx13, ?_⟩
          refine GM.eff (Step.bytesS tb rfl (Op1.of rfl (by first | exact fun _ => rfl | exact fun h => h | exact fun h => bL h | exact fun h => bL (bL h) | exact fun h => bL (bL (bL h)))) rfl rfl rfl (fun _ => hr2.sli) rfl ⟨hx13, ?_⟩)
          have hxa := hx13
          have hx12 := hx010.trans (hx12'.trans hx13)
          try (refine mm tb ?_); repeat ((first | refine dFa tb ?_ | refine dLd tb ?_ | refine dLa tb ?_ | refine dLen tb ?_ | refine dFd tb ?_); try (refine mm tb ?_))
          refine GM.eff (Step.callX rfl rfl (by repeat (first | exact OpL.nil | refine OpL.cons (Op1.of rfl (by first | exact fun _ => rfl | exact fun h => h | exact fun h => bL h | exact fun h => bL (bL h) | exact fun h => bL (bL (bL h)))) ?_)) c15 rfl (fun hc => wakes_ok w13' (hT.to hx12)) ?_)
          intro w13 hx13
          refine ⟨Ext.trans hxa hx13, ?_⟩
          try (refine mm tb ?_); repeat ((first | refine dFa tb ?_ | refine dLd tb ?_ | refine dLa tb ?_ | refine dLen tb ?_ | refine dFd tb ?_); try (refine mm tb ?_))
          refine GM.nil ?_
          refine GD.done (by kernel_rfl) ?_
          try (first | refine gl tb ?_ | refine gg tb ?_ | refine ll tb ?_ | refine lg tb ?_); repeat ((first | refine G.condT rfl ?_ | refine G.condF rfl ?_ | refine sFa tb ?_ | refine sLd tb ?_ | refine sLa tb ?_ | refine sLen tb ?_ | refine sFd tb ?_ | refine sBd tb ?_ | refine sBa tb ?_); try (first | refine gl tb ?_ | refine gg tb ?_ | refine ll tb ?_ | refine lg tb ?_))
          refine G.ret1 rfl rfl rfl rfl ?_
          exact ⟨by simp, Ext.trans hx12 hx13⟩
end Go.Proofs.YtfffblopkaandaaDoor
