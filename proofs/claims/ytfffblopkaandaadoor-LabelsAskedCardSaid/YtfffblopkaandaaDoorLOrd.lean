/- The order of sets, plain; LabelsOrder, walked. -/
import Derived.Test.YtfffblopkaandaaDoorLCm2
import Derived.Test.YtfffblopkaandaaDoorLEq
import Derived.Test.YtfffblopkaandaaDoorGL2
open Go Go.Vg Go.RowKit Go.Proofs Go.Proofs.YtfffblopkaandaaDoor
namespace Go.Proofs.YtfffblopkaandaaDoor
set_option linter.unusedSimpArgs false

theorem cmpB_cases (a b : List UInt8) : (Op.bytesLess a b = true ∧ cmpB a b = -1) ∨ (a = b ∧ cmpB a b = 0) ∨ (Op.bytesLess b a = true ∧ cmpB a b = 1) := by
  rcases bl_tri a b with h | h | h
  · exact .inl ⟨h, cmpB_lt h⟩
  · subst h; exact .inr (.inl ⟨rfl, cmpB_eq (bl_irrefl _) (bl_irrefl _)⟩)
  · exact .inr (.inr ⟨h, cmpB_gt h⟩)
def lx (x y : Lab) : Prop := Op.bytesLess x.1 y.1 = true ∨ x.1 = y.1 ∧ Op.bytesLess x.2 y.2 = true
theorem lx_trans {x y z : Lab} (h : lx x y) (k : lx y z) : lx x z := by
  rcases h with h | ⟨h, h2⟩ <;> rcases k with k | ⟨k, k2⟩
  · exact .inl (bl_trans h k)
  · exact .inl (by rw [← k]; exact h)
  · exact .inl (by rw [h]; exact k)
  · exact .inr ⟨h.trans k, bl_trans h2 k2⟩
theorem lx_irrefl (x : Lab) : ¬ lx x x := by
  rintro (h | ⟨_, h⟩)
  · rw [bl_irrefl] at h; cases h
  · rw [bl_irrefl] at h; cases h
theorem cmpX_cases (x y : Lab) : (lx x y ∧ cmpX x y = -1) ∨ (x = y ∧ cmpX x y = 0) ∨ (lx y x ∧ cmpX x y = 1) := by
  unfold cmpX
  rcases cmpB_cases x.1 y.1 with ⟨h, e⟩ | ⟨h, e⟩ | ⟨h, e⟩
  · exact .inl ⟨.inl h, by rw [e]; rfl⟩
  · rw [if_pos e]
    rcases cmpB_cases x.2 y.2 with ⟨h2, e2⟩ | ⟨h2, e2⟩ | ⟨h2, e2⟩
    · exact .inl ⟨.inr ⟨h, h2⟩, e2⟩
    · exact .inr (.inl ⟨Prod.ext h h2, e2⟩)
    · exact .inr (.inr ⟨.inr ⟨h.symm, h2⟩, e2⟩)
  · exact .inr (.inr ⟨.inl h, by rw [e]; rfl⟩)
/-- a set ahead of another one -/
inductive ltS : List Lab → List Lab → Prop
  | nil {y b} : ltS [] (y :: b)
  | head {x y a b} : lx x y → ltS (x :: a) (y :: b)
  | tail {x a b} : ltS a b → ltS (x :: a) (x :: b)
theorem ltS_trans {a b c : List Lab} (h : ltS a b) (k : ltS b c) : ltS a c := by
  induction h generalizing c with
  | nil => cases k <;> exact .nil
  | head h =>
    cases k with
    | head k => exact .head (lx_trans h k)
    | tail k => exact .head h
  | tail h ih =>
    cases k with
    | head k => exact .head k
    | tail k => exact .tail (ih k)
theorem ltS_irrefl (a : List Lab) : ¬ ltS a a := by
  induction a with
  | nil => intro h; cases h
  | cons x a ih =>
    intro h
    cases h with
    | head h => exact lx_irrefl x h
    | tail h => exact ih h
theorem cmpL_cases (a b : List Lab) : (ltS a b ∧ cmpL a b = -1) ∨ (a = b ∧ cmpL a b = 0) ∨ (ltS b a ∧ cmpL a b = 1) := by
  induction a generalizing b with
  | nil => cases b with
    | nil => exact .inr (.inl ⟨rfl, rfl⟩)
    | cons y b => exact .inl ⟨.nil, rfl⟩
  | cons x a ih => cases b with
    | nil => exact .inr (.inr ⟨.nil, rfl⟩)
    | cons y b =>
      rw [cmpL]
      rcases cmpX_cases x y with ⟨h, e⟩ | ⟨h, e⟩ | ⟨h, e⟩
      · exact .inl ⟨.head h, by rw [e]; rfl⟩
      · subst h
        rw [if_pos e]
        rcases ih b with ⟨h2, e2⟩ | ⟨h2, e2⟩ | ⟨h2, e2⟩
        · exact .inl ⟨.tail h2, e2⟩
        · exact .inr (.inl ⟨by rw [h2], e2⟩)
        · exact .inr (.inr ⟨.tail h2, e2⟩)
      · exact .inr (.inr ⟨.head h, by rw [e]; rfl⟩)
theorem cmpL_refl (a : List Lab) : cmpL a a = 0 := by
  rcases cmpL_cases a a with ⟨h, _⟩ | ⟨_, e⟩ | ⟨h, _⟩
  · exact absurd h (ltS_irrefl a)
  · exact e
  · exact absurd h (ltS_irrefl a)
theorem cmpL_anti (a b : List Lab) : cmpL b a = 0 - cmpL a b := by
  rcases cmpL_cases a b with ⟨h, e⟩ | ⟨h, e⟩ | ⟨h, e⟩
  · rcases cmpL_cases b a with ⟨h2, _⟩ | ⟨h2, _⟩ | ⟨_, e2⟩
    · exact absurd (ltS_trans h h2) (ltS_irrefl a)
    · subst h2; exact absurd h (ltS_irrefl _)
    · omega
  · subst h; omega
  · rcases cmpL_cases b a with ⟨_, e2⟩ | ⟨h2, _⟩ | ⟨h2, _⟩
    · omega
    · subst h2; exact absurd h (ltS_irrefl _)
    · exact absurd (ltS_trans h h2) (ltS_irrefl _)
theorem cmpL_zero (a b : List Lab) : decide (cmpL a b = 0) = eqN a b := by
  rcases cmpL_cases a b with ⟨h, e⟩ | ⟨h, e⟩ | ⟨h, e⟩
  · have : a ≠ b := fun e => by subst e; exact ltS_irrefl _ h
    simp [eqN, e, this]
  · subst h; rw [e]; simp [eqN]
  · have : a ≠ b := fun e => by subst e; exact ltS_irrefl _ h
    simp [eqN, e, this]
theorem cmpL_le {a b c : List Lab} (h : cmpL a b ≤ 0) (k : cmpL b c ≤ 0) : cmpL a c ≤ 0 := by
  rcases cmpL_cases a b with ⟨h1, e⟩ | ⟨h1, e⟩ | ⟨h1, e⟩
  · rcases cmpL_cases b c with ⟨h2, e2⟩ | ⟨h2, e2⟩ | ⟨h2, e2⟩
    · have h3 := ltS_trans h1 h2
      rcases cmpL_cases a c with ⟨_, e3⟩ | ⟨_, e3⟩ | ⟨h4, _⟩
      · omega
      · omega
      · exact absurd (ltS_trans h3 h4) (ltS_irrefl _)
    · subst h2; exact h
    · omega
  · subst h1; exact k
  · omega
theorem cmpL_bd (a b : List Lab) : -1 ≤ cmpL a b ∧ cmpL a b ≤ 1 := by
  rcases cmpL_cases a b with ⟨_, e⟩ | ⟨_, e⟩ | ⟨_, e⟩ <;> omega

theorem order_ok (v0 v1 v2 : Value) (l0 l1 l2 : List Lab) (w : World) (h0 : Labs w v0 l0) (h1 : Labs w v1 l1) (h2 : Labs w v2 l2) (z0 : ∀ x ∈ l0, LabSz x) (z1 : ∀ x ∈ l1, LabSz x) (z2 : ∀ x ∈ l2, LabSz x) (hT : Tabs w) :
    Ret Tryd.prog 7 ⟨[v0, v1, v2]⟩ w fun r w' => r = .bool true ∧ Ext w w' := by
  refine ret_of_G Tryd.func7 rfl Tryd.ntmps7 rfl ?_
  simp only [argEnv]
  try (first | refine gl tb ?_ | refine gg tb ?_ | refine ll tb ?_ | refine lg tb ?_); repeat ((first | refine G.condT rfl ?_ | refine G.condF rfl ?_ | refine sFa tb ?_ | refine sLd tb ?_ | refine sLa tb ?_ | refine sLen tb ?_ | refine sFd tb ?_ | refine sBd tb ?_ | refine sBa tb ?_); try (first | refine gl tb ?_ | refine gg tb ?_ | refine ll tb ?_ | refine lg tb ?_))
  refine sCall c12 (set_ok v0 l0 w h0 z0) ?_
  rintro a w1 ⟨ha, hx1⟩
  try (first | refine gl tb ?_ | refine gg tb ?_ | refine ll tb ?_ | refine lg tb ?_); repeat ((first | refine G.condT rfl ?_ | refine G.condF rfl ?_ | refine sFa tb ?_ | refine sLd tb ?_ | refine sLa tb ?_ | refine sLen tb ?_ | refine sFd tb ?_ | refine sBd tb ?_ | refine sBa tb ?_); try (first | refine gl tb ?_ | refine gg tb ?_ | refine ll tb ?_ | refine lg tb ?_))
  refine sCall c12 (set_ok v1 l1 w1 (h1.to hx1) z1) ?_
  rintro b w2 ⟨hb, hx2⟩
  try (first | refine gl tb ?_ | refine gg tb ?_ | refine ll tb ?_ | refine lg tb ?_); repeat ((first | refine G.condT rfl ?_ | refine G.condF rfl ?_ | refine sFa tb ?_ | refine sLd tb ?_ | refine sLa tb ?_ | refine sLen tb ?_ | refine sFd tb ?_ | refine sBd tb ?_ | refine sBa tb ?_); try (first | refine gl tb ?_ | refine gg tb ?_ | refine ll tb ?_ | refine lg tb ?_))
  refine sCall c12 (set_ok v2 l2 w2 (h2.to (hx1.trans hx2)) z2) ?_
  rintro c w3 ⟨hcc, hx3⟩
  have ha := ((ha.to hx2).to hx3).sli
  have hb := (hb.to hx3).sli
  have hcc := hcc.sli
  have hx := (hx1.trans hx2).trans hx3
  generalize setN l0 = x at ha
  generalize setN l1 = y at hb
  generalize setN l2 = z at hcc
  clear hx1 hx2 hx3 h0 h1 h2
  try (first | refine gl tb ?_ | refine gg tb ?_ | refine ll tb ?_ | refine lg tb ?_); repeat ((first | refine G.condT rfl ?_ | refine G.condF rfl ?_ | refine sFa tb ?_ | refine sLd tb ?_ | refine sLa tb ?_ | refine sLen tb ?_ | refine sFd tb ?_ | refine sBd tb ?_ | refine sBa tb ?_); try (first | refine gl tb ?_ | refine gg tb ?_ | refine ll tb ?_ | refine lg tb ?_))
  refine sCallx c31 (fun hc => compare2_ok a b x y w3 ha hb) ?_
  intro w4 hx4
  try (first | refine gl tb ?_ | refine gg tb ?_ | refine ll tb ?_ | refine lg tb ?_); repeat ((first | refine G.condT rfl ?_ | refine G.condF rfl ?_ | refine sFa tb ?_ | refine sLd tb ?_ | refine sLa tb ?_ | refine sLen tb ?_ | refine sFd tb ?_ | refine sBd tb ?_ | refine sBa tb ?_); try (first | refine gl tb ?_ | refine gg tb ?_ | refine ll tb ?_ | refine lg tb ?_))
  refine sCallx c31 (fun hc => compare2_ok b c y z w4 (hb.to hx4) (hcc.to hx4)) ?_
  intro w5 hx5
  have hx35 := hx4.trans hx5
  try (first | refine gl tb ?_ | refine gg tb ?_ | refine ll tb ?_ | refine lg tb ?_); repeat ((first | refine G.condT rfl ?_ | refine G.condF rfl ?_ | refine sFa tb ?_ | refine sLd tb ?_ | refine sLa tb ?_ | refine sLen tb ?_ | refine sFd tb ?_ | refine sBd tb ?_ | refine sBa tb ?_); try (first | refine gl tb ?_ | refine gg tb ?_ | refine ll tb ?_ | refine lg tb ?_))
  refine sCallx c32 (fun hc => refCompare_ok a b x y w5 (ha.to hx35) (hb.to hx35)) ?_
  intro w6 hx6
  have hx36 := hx35.trans hx6
  try (first | refine gl tb ?_ | refine gg tb ?_ | refine ll tb ?_ | refine lg tb ?_); repeat ((first | refine G.condT rfl ?_ | refine G.condF rfl ?_ | refine sFa tb ?_ | refine sLd tb ?_ | refine sLa tb ?_ | refine sLen tb ?_ | refine sFd tb ?_ | refine sBd tb ?_ | refine sBa tb ?_); try (first | refine gl tb ?_ | refine gg tb ?_ | refine ll tb ?_ | refine lg tb ?_))
  refine sCallx c31 (fun hc => compare2_ok b a y x w6 (hb.to hx36) (ha.to hx36)) ?_
  intro w7 hx7
  have hx37 := hx36.trans hx7
  have hbd := cmpL_bd x y
  try (first | refine gl tb ?_ | refine gg tb ?_ | refine ll tb ?_ | refine lg tb ?_); repeat ((first | refine G.condT rfl ?_ | refine G.condF rfl ?_ | refine sFa tb ?_ | refine sLd tb ?_ | refine sLa tb ?_ | refine sLen tb ?_ | refine sFd tb ?_ | refine sBd tb ?_ | refine sBa tb ?_); try (first | refine gl tb ?_ | refine gg tb ?_ | refine ll tb ?_ | refine lg tb ?_))
  refine sNeg ?_
  try (first | refine gl tb ?_ | refine gg tb ?_ | refine ll tb ?_ | refine lg tb ?_); repeat ((first | refine G.condT rfl ?_ | refine G.condF rfl ?_ | refine sFa tb ?_ | refine sLd tb ?_ | refine sLa tb ?_ | refine sLen tb ?_ | refine sFd tb ?_ | refine sBd tb ?_ | refine sBa tb ?_); try (first | refine gl tb ?_ | refine gg tb ?_ | refine ll tb ?_ | refine lg tb ?_))
  refine sCallx c31 (fun hc => compare2_ok a a x x w7 (ha.to hx37) (ha.to hx37)) ?_
  intro w8 hx8
  have hx38 := hx37.trans hx8
  try (first | refine gl tb ?_ | refine gg tb ?_ | refine ll tb ?_ | refine lg tb ?_); repeat ((first | refine G.condT rfl ?_ | refine G.condF rfl ?_ | refine sFa tb ?_ | refine sLd tb ?_ | refine sLa tb ?_ | refine sLen tb ?_ | refine sFd tb ?_ | refine sBd tb ?_ | refine sBa tb ?_); try (first | refine gl tb ?_ | refine gg tb ?_ | refine ll tb ?_ | refine lg tb ?_))
  refine sCallx c21 (fun hc => keepLabels_ok a b x y w8 (ha.to hx38) (hb.to hx38)) ?_
  intro w9 hx9
  have hx39 := hx38.trans hx9
  try (first | refine gl tb ?_ | refine gg tb ?_ | refine ll tb ?_ | refine lg tb ?_); repeat ((first | refine G.condT rfl ?_ | refine G.condF rfl ?_ | refine sFa tb ?_ | refine sLd tb ?_ | refine sLa tb ?_ | refine sLen tb ?_ | refine sFd tb ?_ | refine sBd tb ?_ | refine sBa tb ?_); try (first | refine gl tb ?_ | refine gg tb ?_ | refine ll tb ?_ | refine lg tb ?_))
  rw [cmpL_anti x y, cmpL_refl x, cmpL_zero x y]
  first | refine G.condD rfl (fun hc => ?_) (fun hc => ?_) | refine G.condN rfl (fun hc => ?_) (fun hc => ?_) | refine G.cond rfl (fun hc => ?_) (fun hc => ?_)
  · exact absurd hc (by simp)
  · clear hc
    try (first | refine gl tb ?_ | refine gg tb ?_ | refine ll tb ?_ | refine lg tb ?_); repeat ((first | refine G.condT rfl ?_ | refine G.condF rfl ?_ | refine sFa tb ?_ | refine sLd tb ?_ | refine sLa tb ?_ | refine sLen tb ?_ | refine sFd tb ?_ | refine sBd tb ?_ | refine sBa tb ?_); try (first | refine gl tb ?_ | refine gg tb ?_ | refine ll tb ?_ | refine lg tb ?_))
    refine sCallx c31 (fun hc => compare2_ok a c x z w9 (ha.to hx39) (hcc.to hx39)) ?_
    intro w10 hx10
    have hx310 := hx39.trans hx10
    try (first | refine gl tb ?_ | refine gg tb ?_ | refine ll tb ?_ | refine lg tb ?_); repeat ((first | refine G.condT rfl ?_ | refine G.condF rfl ?_ | refine sFa tb ?_ | refine sLd tb ?_ | refine sLa tb ?_ | refine sLen tb ?_ | refine sFd tb ?_ | refine sBd tb ?_ | refine sBa tb ?_); try (first | refine gl tb ?_ | refine gg tb ?_ | refine ll tb ?_ | refine lg tb ?_))
    refine sCallx c31 (fun hc => compare2_ok a c x z w10 (ha.to hx310) (hcc.to hx310)) ?_
    intro w11 hx11
    have hx311 := hx310.trans hx11
    try (first | refine gl tb ?_ | refine gg tb ?_ | refine ll tb ?_ | refine lg tb ?_); repeat ((first | refine G.condT rfl ?_ | refine G.condF rfl ?_ | refine sFa tb ?_ | refine sLd tb ?_ | refine sLa tb ?_ | refine sLen tb ?_ | refine sFd tb ?_ | refine sBd tb ?_ | refine sBa tb ?_); try (first | refine gl tb ?_ | refine gg tb ?_ | refine ll tb ?_ | refine lg tb ?_))
    first | refine G.condD rfl (fun hc => ?_) (fun hc => ?_) | refine G.condN rfl (fun hc => ?_) (fun hc => ?_) | refine G.cond rfl (fun hc => ?_) (fun hc => ?_)
    · exfalso
      simp only [Bool.or_eq_true, Bool.and_eq_true, decide_eq_true_eq] at hc
      rcases hc with ⟨⟨p, q⟩, r⟩ | ⟨⟨p, q⟩, r⟩
      · have := cmpL_le p q; omega
      · have e1 := cmpL_anti x y
        have e2 := cmpL_anti y z
        have e3 := cmpL_anti x z
        have := cmpL_le (a := z) (b := y) (c := x) (by omega) (by omega)
        omega
    · try (first | refine gl tb ?_ | refine gg tb ?_ | refine ll tb ?_ | refine lg tb ?_); repeat ((first | refine G.condT rfl ?_ | refine G.condF rfl ?_ | refine sFa tb ?_ | refine sLd tb ?_ | refine sLa tb ?_ | refine sLen tb ?_ | refine sFd tb ?_ | refine sBd tb ?_ | refine sBa tb ?_); try (first | refine gl tb ?_ | refine gg tb ?_ | refine ll tb ?_ | refine lg tb ?_))
      refine sCallx c15 (fun hc => wakes_ok w11 (hT.to (hx.trans hx311))) ?_
      intro w12 hx12
      try (first | refine gl tb ?_ | refine gg tb ?_ | refine ll tb ?_ | refine lg tb ?_); repeat ((first | refine G.condT rfl ?_ | refine G.condF rfl ?_ | refine sFa tb ?_ | refine sLd tb ?_ | refine sLa tb ?_ | refine sLen tb ?_ | refine sFd tb ?_ | refine sBd tb ?_ | refine sBa tb ?_); try (first | refine gl tb ?_ | refine gg tb ?_ | refine ll tb ?_ | refine lg tb ?_))
      refine G.ret1 rfl rfl rfl rfl ?_
      exact ⟨rfl, (hx.trans hx311).trans hx12⟩
end Go.Proofs.YtfffblopkaandaaDoor
