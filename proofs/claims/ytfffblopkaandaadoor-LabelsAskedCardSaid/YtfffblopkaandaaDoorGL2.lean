/- labels: what a label may be, walked. -/
import Derived.Test.YtfffblopkaandaaDoorGL1
import Derived.Test.YtfffblopkaandaaDoorLShelf
import Derived.Test.YtfffblopkaandaaDoorV11
import Derived.Test.YtfffblopkaandaaDoorGV1
open Go Go.Vg Go.RowKit Go.Proofs Go.Proofs.YtfffblopkaandaaDoor
namespace Go.Proofs.YtfffblopkaandaaDoor
set_option linter.unusedSimpArgs false

abbrev Tabs (w : World) : Prop := Lib.Utf8Tabs (Tryd.laysValid_ren.g 3) (Tryd.laysValid_ren.g 4) w
theorem validS_ok (s : List UInt8) (w : World) (hs : Sz s) (hT : Tabs w) :
    Ret Tryd.prog 78 ⟨[S s]⟩ w fun v w' => v = .bool (Lib.validD s) ∧ Ext w w' :=
  Calls.mono (Any.utf8_ValidString Tryd.laysValid ⟨⟨s⟩⟩ w hs hT) fun _ _ ⟨he, hb⟩ => ⟨_, he, rfl, hb⟩
theorem Tabs.to {w w' : World} (h : Tabs w) (hx : Ext w w') : Tabs w' := Utf8Tabs_below h hx
def okB (x : Lab) : Bool := if (!namedB false x.1 || decide ((1024 : Int) < x.2.length) || !Lib.validD x.2) = true then false else (!decide (x.1 = nameS) || decide (x.2 = []) || namedB true x.2)
theorem right_ok (x : Lab) (w : World) (hx : LabSz x) (hT : Tabs w) :
    Ret Tryd.prog 55 ⟨[.agg ⟨labC x⟩]⟩ w fun v w' => v = .bool (okB x) ∧ Ext w w' := by
  refine ret_of_G Tryd.func55 rfl Tryd.ntmps55 rfl ?_
  simp only [argEnv]
  try (first | refine gl tb ?_ | refine gg tb ?_ | refine ll tb ?_ | refine lg tb ?_); repeat ((first | refine G.condT rfl ?_ | refine G.condF rfl ?_); try (first | refine gl tb ?_ | refine gg tb ?_ | refine ll tb ?_ | refine lg tb ?_))
  refine GL.cons (Step.box rfl (Op1.of rfl (by first | exact fun _ => rfl | exact fun h => h | exact fun h => bL h | exact fun h => bL (bL h) | exact fun h => bL (bL (bL h)))) (rfl) rfl ?_)
  intro w1 hb1 hs1 hx1
  try (first | refine gl tb ?_ | refine gg tb ?_ | refine ll tb ?_ | refine lg tb ?_); repeat ((first | refine G.condT rfl ?_ | refine G.condF rfl ?_); try (first | refine gl tb ?_ | refine gg tb ?_ | refine ll tb ?_ | refine lg tb ?_))
  refine GL.cons (Step.fieldAddr tb rfl (Op1.of rfl (by first | exact fun _ => rfl | exact fun h => h | exact fun h => bL h | exact fun h => bL (bL h) | exact fun h => bL (bL (bL h)))) rfl rfl rfl rfl (fun _ => (hb1.cells).ptr) rfl ?_); refine GL.cons (Step.load1 tb rfl (Op1.of rfl (by first | exact fun _ => rfl | exact fun h => h | exact fun h => bL h | exact fun h => bL (bL h) | exact fun h => bL (bL (bL h)))) rfl rfl (fun _ => (hb1.cells).cell (i := 0) rfl) rfl ?_)
  refine GL.cons (Step.callX rfl rfl (by repeat (first | exact OpL.nil | refine OpL.cons (Op1.of rfl (by first | exact fun _ => rfl | exact fun h => h | exact fun h => bL h | exact fun h => bL (bL h) | exact fun h => bL (bL (bL h)))) ?_)) c26 rfl (fun hc => rightName_ok x.1 w1 hx.1) ?_)
  intro w2 hx2
  have hb2 := hb1.to hx2
  try (first | refine gl tb ?_ | refine gg tb ?_ | refine ll tb ?_ | refine lg tb ?_); repeat ((first | refine G.condT rfl ?_ | refine G.condF rfl ?_); try (first | refine gl tb ?_ | refine gg tb ?_ | refine ll tb ?_ | refine lg tb ?_))
  refine GL.cons (Step.fieldAddr tb rfl (Op1.of rfl (by first | exact fun _ => rfl | exact fun h => h | exact fun h => bL h | exact fun h => bL (bL h) | exact fun h => bL (bL (bL h)))) rfl rfl rfl rfl (fun _ => (hb2.cells).ptr) rfl ?_); refine GL.cons (Step.load1 tb rfl (Op1.of rfl (by first | exact fun _ => rfl | exact fun h => h | exact fun h => bL h | exact fun h => bL (bL h) | exact fun h => bL (bL (bL h)))) rfl rfl (fun _ => (hb2.cells).cell (i := 1) rfl) rfl ?_)
  try (first | refine gl tb ?_ | refine gg tb ?_ | refine ll tb ?_ | refine lg tb ?_); repeat ((first | refine G.condT rfl ?_ | refine G.condF rfl ?_); try (first | refine gl tb ?_ | refine gg tb ?_ | refine ll tb ?_ | refine lg tb ?_))
  refine GL.cons (Step.fieldAddr tb rfl (Op1.of rfl (by first | exact fun _ => rfl | exact fun h => h | exact fun h => bL h | exact fun h => bL (bL h) | exact fun h => bL (bL (bL h)))) rfl rfl rfl rfl (fun _ => (hb2.cells).ptr) rfl ?_); refine GL.cons (Step.load1 tb rfl (Op1.of rfl (by first | exact fun _ => rfl | exact fun h => h | exact fun h => bL h | exact fun h => bL (bL h) | exact fun h => bL (bL (bL h)))) rfl rfl (fun _ => (hb2.cells).cell (i := 1) rfl) rfl ?_)
  try (first | refine gl tb ?_ | refine gg tb ?_ | refine ll tb ?_ | refine lg tb ?_); repeat ((first | refine G.condT rfl ?_ | refine G.condF rfl ?_); try (first | refine gl tb ?_ | refine gg tb ?_ | refine ll tb ?_ | refine lg tb ?_))
  refine GL.cons (Step.callX rfl rfl (by repeat (first | exact OpL.nil | refine OpL.cons (Op1.of rfl (by first | exact fun _ => rfl | exact fun h => h | exact fun h => bL h | exact fun h => bL (bL h) | exact fun h => bL (bL (bL h)))) ?_)) c78 rfl (fun hc => validS_ok x.2 w2 hx.2 (hT.to (hx1.trans hx2))) ?_)
  intro w3 hx3
  have hb3 := hb2.to hx3
  try (first | refine gl tb ?_ | refine gg tb ?_ | refine ll tb ?_ | refine lg tb ?_); repeat ((first | refine G.condT rfl ?_ | refine G.condF rfl ?_); try (first | refine gl tb ?_ | refine gg tb ?_ | refine ll tb ?_ | refine lg tb ?_))
  first | refine G.condD rfl (fun hc => ?_) (fun hc => ?_) | refine G.condN rfl (fun hc => ?_) (fun hc => ?_) | refine G.cond rfl (fun hc => ?_) (fun hc => ?_)
  · try (first | refine gl tb ?_ | refine gg tb ?_ | refine ll tb ?_ | refine lg tb ?_); repeat ((first | refine G.condT rfl ?_ | refine G.condF rfl ?_); try (first | refine gl tb ?_ | refine gg tb ?_ | refine ll tb ?_ | refine lg tb ?_))
    refine G.ret1 rfl rfl rfl rfl ?_
    refine ⟨?_, (hx1.trans hx2).trans hx3⟩
    have : okB x = if (!namedB false x.1 || decide ((1024 : Int) < x.2.length) || !Lib.validD x.2) = true then false else (!decide (x.1 = nameS) || decide (x.2 = []) || namedB true x.2) := rfl
    rw [this, if_pos hc]
  · have : okB x = (!decide (x.1 = nameS) || decide (x.2 = []) || namedB true x.2) := by unfold okB; rw [if_neg (by rw [hc]; simp)]
    rw [this]
    try (first | refine gl tb ?_ | refine gg tb ?_ | refine ll tb ?_ | refine lg tb ?_); repeat ((first | refine G.condT rfl ?_ | refine G.condF rfl ?_); try (first | refine gl tb ?_ | refine gg tb ?_ | refine ll tb ?_ | refine lg tb ?_))
    refine GL.cons (Step.fieldAddr tb rfl (Op1.of rfl (by first | exact fun _ => rfl | exact fun h => h | exact fun h => bL h | exact fun h => bL (bL h) | exact fun h => bL (bL (bL h)))) rfl rfl rfl rfl (fun _ => (hb3.cells).ptr) rfl ?_); refine GL.cons (Step.load1 tb rfl (Op1.of rfl (by first | exact fun _ => rfl | exact fun h => h | exact fun h => bL h | exact fun h => bL (bL h) | exact fun h => bL (bL (bL h)))) rfl rfl (fun _ => (hb3.cells).cell (i := 0) rfl) rfl ?_)
    try (first | refine gl tb ?_ | refine gg tb ?_ | refine ll tb ?_ | refine lg tb ?_); repeat ((first | refine G.condT rfl ?_ | refine G.condF rfl ?_); try (first | refine gl tb ?_ | refine gg tb ?_ | refine ll tb ?_ | refine lg tb ?_))
    refine GL.cons (Step.fieldAddr tb rfl (Op1.of rfl (by first | exact fun _ => rfl | exact fun h => h | exact fun h => bL h | exact fun h => bL (bL h) | exact fun h => bL (bL (bL h)))) rfl rfl rfl rfl (fun _ => (hb3.cells).ptr) rfl ?_); refine GL.cons (Step.load1 tb rfl (Op1.of rfl (by first | exact fun _ => rfl | exact fun h => h | exact fun h => bL h | exact fun h => bL (bL h) | exact fun h => bL (bL (bL h)))) rfl rfl (fun _ => (hb3.cells).cell (i := 1) rfl) rfl ?_)
    try (first | refine gl tb ?_ | refine gg tb ?_ | refine ll tb ?_ | refine lg tb ?_); repeat ((first | refine G.condT rfl ?_ | refine G.condF rfl ?_); try (first | refine gl tb ?_ | refine gg tb ?_ | refine ll tb ?_ | refine lg tb ?_))
    refine GL.cons (Step.fieldAddr tb rfl (Op1.of rfl (by first | exact fun _ => rfl | exact fun h => h | exact fun h => bL h | exact fun h => bL (bL h) | exact fun h => bL (bL (bL h)))) rfl rfl rfl rfl (fun _ => (hb3.cells).ptr) rfl ?_); refine GL.cons (Step.load1 tb rfl (Op1.of rfl (by first | exact fun _ => rfl | exact fun h => h | exact fun h => bL h | exact fun h => bL (bL h) | exact fun h => bL (bL (bL h)))) rfl rfl (fun _ => (hb3.cells).cell (i := 1) rfl) rfl ?_)
    refine GL.cons (Step.callX rfl rfl (by repeat (first | exact OpL.nil | refine OpL.cons (Op1.of rfl (by first | exact fun _ => rfl | exact fun h => h | exact fun h => bL h | exact fun h => bL (bL h) | exact fun h => bL (bL (bL h)))) ?_)) c28 rfl (fun hc => rightMetric_ok x.2 w3 hx.2) ?_)
    intro w4 hx4
    try (first | refine gl tb ?_ | refine gg tb ?_ | refine ll tb ?_ | refine lg tb ?_); repeat ((first | refine G.condT rfl ?_ | refine G.condF rfl ?_); try (first | refine gl tb ?_ | refine gg tb ?_ | refine ll tb ?_ | refine lg tb ?_))
    refine G.ret1 rfl rfl rfl rfl ?_
    exact ⟨rfl, ((hx1.trans hx2).trans hx3).trans hx4⟩
end Go.Proofs.YtfffblopkaandaaDoor
open Go Go.Vg Go.RowKit Go.Proofs Go.Proofs.YtfffblopkaandaaDoor
namespace Go.Proofs.YtfffblopkaandaaDoor
set_option linter.unusedSimpArgs false

def cmpB (a b : List UInt8) : Int := if Op.bytesLess a b = true then -1 else if (!Op.bytesLess a b && !decide (a = b)) = true then 1 else 0
theorem isNaN_ok (s : List UInt8) (w : World) : Ret Tryd.prog 81 ⟨[S s]⟩ w fun r w' => r = .bool false ∧ w' = w := by
  refine ret_of_G Tryd.func81 rfl Tryd.ntmps81 rfl ?_
  simp only [argEnv]
  try (first | refine gl tb ?_ | refine gg tb ?_ | refine ll tb ?_ | refine lg tb ?_); repeat ((first | refine G.condT rfl ?_ | refine G.condF rfl ?_); try (first | refine gl tb ?_ | refine gg tb ?_ | refine ll tb ?_ | refine lg tb ?_))
  refine G.ret1 rfl rfl rfl rfl ?_
  exact ⟨by simp, rfl⟩
theorem compare_ok (a b : List UInt8) (w : World) : Ret Tryd.prog 58 ⟨[S a, S b]⟩ w fun r w' => r = .int .i64 (cmpB a b) ∧ w' = w := by
  refine ret_of_G Tryd.func58 rfl Tryd.ntmps58 rfl ?_
  simp only [argEnv]
  try (first | refine gl tb ?_ | refine gg tb ?_ | refine ll tb ?_ | refine lg tb ?_); repeat ((first | refine G.condT rfl ?_ | refine G.condF rfl ?_); try (first | refine gl tb ?_ | refine gg tb ?_ | refine ll tb ?_ | refine lg tb ?_))
  refine GL.cons (Step.callF rfl rfl rfl c81 rfl (isNaN_ok a w) ?_)
  rintro _ w1 ⟨rfl, hw⟩
  obtain rfl : w = w1 := hw.symm
  try (first | refine gl tb ?_ | refine gg tb ?_ | refine ll tb ?_ | refine lg tb ?_); repeat ((first | refine G.condT rfl ?_ | refine G.condF rfl ?_); try (first | refine gl tb ?_ | refine gg tb ?_ | refine ll tb ?_ | refine lg tb ?_))
  refine GL.cons (Step.callF rfl rfl rfl c81 rfl (isNaN_ok b w) ?_)
  rintro _ w1 ⟨rfl, hw⟩
  obtain rfl : w = w1 := hw.symm
  try (first | refine gl tb ?_ | refine gg tb ?_ | refine ll tb ?_ | refine lg tb ?_); repeat ((first | refine G.condT rfl ?_ | refine G.condF rfl ?_); try (first | refine gl tb ?_ | refine gg tb ?_ | refine ll tb ?_ | refine lg tb ?_))
  first | refine G.condD rfl (fun hc => ?_) (fun hc => ?_) | refine G.condN rfl (fun hc => ?_) (fun hc => ?_) | refine G.cond rfl (fun hc => ?_) (fun hc => ?_)
  · try (first | refine gl tb ?_ | refine gg tb ?_ | refine ll tb ?_ | refine lg tb ?_); repeat ((first | refine G.condT rfl ?_ | refine G.condF rfl ?_); try (first | refine gl tb ?_ | refine gg tb ?_ | refine ll tb ?_ | refine lg tb ?_))
    refine G.ret1 rfl rfl rfl rfl ?_
    exact ⟨by rw [cmpB, if_pos hc], rfl⟩
  · have hc1 := hc
    try (first | refine gl tb ?_ | refine gg tb ?_ | refine ll tb ?_ | refine lg tb ?_); repeat ((first | refine G.condT rfl ?_ | refine G.condF rfl ?_); try (first | refine gl tb ?_ | refine gg tb ?_ | refine ll tb ?_ | refine lg tb ?_))
    first | refine G.condD rfl (fun hc => ?_) (fun hc => ?_) | refine G.condN rfl (fun hc => ?_) (fun hc => ?_) | refine G.cond rfl (fun hc => ?_) (fun hc => ?_)
    · try (first | refine gl tb ?_ | refine gg tb ?_ | refine ll tb ?_ | refine lg tb ?_); repeat ((first | refine G.condT rfl ?_ | refine G.condF rfl ?_); try (first | refine gl tb ?_ | refine gg tb ?_ | refine ll tb ?_ | refine lg tb ?_))
      refine G.ret1 rfl rfl rfl rfl ?_
      exact ⟨by rw [cmpB, if_neg (by rw [hc1]; simp), if_pos hc], rfl⟩
    · try (first | refine gl tb ?_ | refine gg tb ?_ | refine ll tb ?_ | refine lg tb ?_); repeat ((first | refine G.condT rfl ?_ | refine G.condF rfl ?_); try (first | refine gl tb ?_ | refine gg tb ?_ | refine ll tb ?_ | refine lg tb ?_))
      refine G.ret1 rfl rfl rfl rfl ?_
      exact ⟨by rw [cmpB, if_neg (by rw [hc1]; simp), if_neg (by rw [hc]; simp)], rfl⟩
open Go.Sort in
theorem new1_ok (x y : Lab) (w : World) : Ret Tryd.prog 57 ⟨[.agg ⟨labC x⟩, .agg ⟨labC y⟩]⟩ w fun r w' => r = .int .i64 (cmpB x.1 y.1) ∧ ∃ q os, w' = grow (w.drewN q) os := by
  refine ret_of_G Tryd.func57 rfl Tryd.ntmps57 rfl ?_
  simp only [argEnv]
  try (first | refine gl tb ?_ | refine gg tb ?_ | refine ll tb ?_ | refine lg tb ?_); repeat ((first | refine G.condT rfl ?_ | refine G.condF rfl ?_); try (first | refine gl tb ?_ | refine gg tb ?_ | refine ll tb ?_ | refine lg tb ?_))
  refine GL.cons (Step.boxE rfl (Op1.of rfl (by first | exact fun _ => rfl | exact fun h => h | exact fun h => bL h | exact fun h => bL (bL h) | exact fun h => bL (bL (bL h)))) (rfl) rfl ?_)
  refine GL.cons (Step.boxE rfl (Op1.of rfl (by first | exact fun _ => rfl | exact fun h => h | exact fun h => bL h | exact fun h => bL (bL h) | exact fun h => bL (bL (bL h)))) (rfl) rfl ?_)
  have hb1 : Bx ((w.alloc (.cells ⟨labC x⟩ 28)).alloc (.cells ⟨labC y⟩ 28)) w.heap.size (labC x) := (Bx.new w (labC x) 28).to (Ext.alloc _ _)
  have hb2 : Bx ((w.alloc (.cells ⟨labC x⟩ 28)).alloc (.cells ⟨labC y⟩ 28)) (w.alloc (.cells ⟨labC x⟩ 28)).heap.size (labC y) := Bx.new _ _ _
  have hw : ∃ q os, (w.alloc (.cells ⟨labC x⟩ 28)).alloc (.cells ⟨labC y⟩ 28) = grow (w.drewN q) os := ⟨0, _, by rw [alloc_eq_grow, alloc_eq_grow, grow_grow]; rfl⟩
  generalize (w.alloc (.cells ⟨labC x⟩ 28)).heap.size = b at hb2 ⊢
  generalize (w.alloc (.cells ⟨labC x⟩ 28)).alloc (.cells ⟨labC y⟩ 28) = w2 at hb1 hb2 hw ⊢
  try (first | refine gl tb ?_ | refine gg tb ?_ | refine ll tb ?_ | refine lg tb ?_); repeat ((first | refine G.condT rfl ?_ | refine G.condF rfl ?_); try (first | refine gl tb ?_ | refine gg tb ?_ | refine ll tb ?_ | refine lg tb ?_))
  refine GL.cons (Step.fieldAddr tb rfl (Op1.of rfl (by first | exact fun _ => rfl | exact fun h => h | exact fun h => bL h | exact fun h => bL (bL h) | exact fun h => bL (bL (bL h)))) rfl rfl rfl rfl (fun _ => (hb1.cells).ptr) rfl ?_); refine GL.cons (Step.load1 tb rfl (Op1.of rfl (by first | exact fun _ => rfl | exact fun h => h | exact fun h => bL h | exact fun h => bL (bL h) | exact fun h => bL (bL (bL h)))) rfl rfl (fun _ => (hb1.cells).cell (i := 0) rfl) rfl ?_)
  refine GL.cons (Step.fieldAddr tb rfl (Op1.of rfl (by first | exact fun _ => rfl | exact fun h => h | exact fun h => bL h | exact fun h => bL (bL h) | exact fun h => bL (bL (bL h)))) rfl rfl rfl rfl (fun _ => (hb2.cells).ptr) rfl ?_); refine GL.cons (Step.load1 tb rfl (Op1.of rfl (by first | exact fun _ => rfl | exact fun h => h | exact fun h => bL h | exact fun h => bL (bL h) | exact fun h => bL (bL (bL h)))) rfl rfl (fun _ => (hb2.cells).cell (i := 0) rfl) rfl ?_)
  refine GL.cons (Step.callF rfl rfl rfl c58 rfl (compare_ok x.1 y.1 w2) ?_)
  rintro _ w3 ⟨rfl, hw3⟩
  obtain rfl : w2 = w3 := hw3.symm
  try (first | refine gl tb ?_ | refine gg tb ?_ | refine ll tb ?_ | refine lg tb ?_); repeat ((first | refine G.condT rfl ?_ | refine G.condF rfl ?_); try (first | refine gl tb ?_ | refine gg tb ?_ | refine ll tb ?_ | refine lg tb ?_))
  refine G.ret1 rfl rfl rfl rfl ?_
  exact ⟨rfl, hw⟩
end Go.Proofs.YtfffblopkaandaaDoor
open Go Go.Vg Go.RowKit Go.Proofs Go.Proofs.YtfffblopkaandaaDoor
namespace Go.Proofs.YtfffblopkaandaaDoor
set_option linter.unusedSimpArgs false
open Go.Sort

abbrev bl (a b : List UInt8) : Bool := Op.bytesLess a b
theorem bl_cons (a b : UInt8) (x y : List UInt8) : Op.bytesLess (a :: x) (b :: y) = true ↔ a.toNat < b.toNat ∨ a = b ∧ Op.bytesLess x y = true := by
  simp only [Op.bytesLess, Bool.or_eq_true, Bool.and_eq_true, decide_eq_true_eq, beq_iff_eq, UInt8.lt_iff_toNat_lt]
theorem bl_irrefl : ∀ a : List UInt8, Op.bytesLess a a = false
  | [] => rfl
  | a :: x => by
    rw [Bool.eq_false_iff]
    intro h
    rcases (bl_cons _ _ _ _).1 h with h | ⟨_, h⟩
    · omega
    · rw [bl_irrefl x] at h; cases h
theorem bl_trans : ∀ {a b c : List UInt8}, Op.bytesLess a b = true → Op.bytesLess b c = true → Op.bytesLess a c = true
  | _, _, [], _, h => by unfold Op.bytesLess at h; cases h
  | [], _, _ :: _, _, _ => rfl
  | _ :: _, [], _, h, _ => by unfold Op.bytesLess at h; cases h
  | a :: x, b :: y, c :: z, h1, h2 => by
    rw [bl_cons] at h1 h2 ⊢
    rcases h1 with h1 | ⟨rfl, h1⟩
    · rcases h2 with h2 | ⟨rfl, h2⟩
      · exact .inl (by omega)
      · exact .inl h1
    · rcases h2 with h2 | ⟨rfl, h2⟩
      · exact .inl h2
      · exact .inr ⟨rfl, bl_trans h1 h2⟩
theorem bl_tri : ∀ (a b : List UInt8), Op.bytesLess a b = true ∨ a = b ∨ Op.bytesLess b a = true
  | [], [] => .inr (.inl rfl)
  | [], _ :: _ => .inl rfl
  | _ :: _, [] => .inr (.inr rfl)
  | a :: x, b :: y => by
    rw [bl_cons, bl_cons]
    rcases Nat.lt_trichotomy a.toNat b.toNat with h | h | h
    · exact .inl (.inl h)
    · obtain rfl := UInt8.toNat_inj.1 h
      rcases bl_tri x y with h | rfl | h
      · exact .inl (.inr ⟨rfl, h⟩)
      · exact .inr (.inl rfl)
      · exact .inr (.inr (.inr ⟨rfl, h⟩))
    · exact .inr (.inr (.inl h))
theorem bl_asymm {a b : List UInt8} (h : Op.bytesLess a b = true) : Op.bytesLess b a = false := by
  rw [Bool.eq_false_iff]
  intro h2
  have := bl_trans h h2
  rw [bl_irrefl] at this; cases this
theorem bl_not {a b : List UInt8} (h : Op.bytesLess a b = false) : b = a ∨ Op.bytesLess b a = true := by
  rcases bl_tri a b with h1 | h1 | h1
  · rw [h1] at h; cases h
  · exact .inl h1.symm
  · exact .inr h1
def cfL (x y : Lab) : Int := cmpB x.1 y.1
theorem ltL (x y : Lab) : ltOf cfL x y = Op.bytesLess x.1 y.1 := by
  unfold ltOf cfL cmpB
  cases Op.bytesLess x.1 y.1 with
  | true => rfl
  | false =>
    simp only [Bool.false_eq_true, if_false]
    split <;> rfl
theorem swoL : SWO (ltOf cfL) where
  irrefl x := by rw [ltL]; exact bl_irrefl _
  trans x y z h1 h2 := by rw [ltL] at *; exact bl_trans h1 h2
  ntrans x y z h1 h2 := by
    rw [ltL] at *
    rw [Bool.eq_false_iff]
    intro h
    rcases bl_not h1 with e | e
    · rw [e] at h2; rw [h] at h2; cases h2
    · have := bl_trans e h
      rw [this] at h2; cases h2
end Go.Proofs.YtfffblopkaandaaDoor
open Go Go.Vg Go.RowKit Go.Proofs Go.Proofs.YtfffblopkaandaaDoor
namespace Go.Proofs.YtfffblopkaandaaDoor
set_option linter.unusedSimpArgs false
open Go.Sort

theorem isAggL : ∀ w, (isAgg (Tryd.sortL_ren.t 24)).run Tryd.prog w = .ok true w := Tryd.isAgg28
theorem sizeL : ∀ w, (Go.sizeOf (Tryd.sortL_ren.t 24)).run Tryd.prog w = .ok 2 w := Tryd.sizeOf28
theorem labC1 : ∀ x : Lab, ∀ v ∈ labC x, v.oneCell' = true := by
  intro x c hc
  simp only [labC, List.mem_cons, List.not_mem_nil, or_false] at hc
  rcases hc with rfl | rfl <;> rfl
theorem cmpLaysL (blk off size : Nat) (w : World) : CmpLays Tryd.prog 57 #[] labC 2 cfL blk off size w :=
  fun _ _ _ _ x y => Calls.mono (new1_ok x y _) fun _ _ ⟨v, he, hv, q, os, hw⟩ => ⟨by rw [he, hv]; rfl, q, os, hw⟩
def sortedL (ls : List Lab) : Prop := ls.Pairwise fun x y => Op.bytesLess y.1 x.1 = false
theorem sort_ok (s : Value) (ls : List Lab) (B : Nat) (w : World) (ho : LO w B s ls) (hn : ls.length ≤ 1000000) :
    Ret Tryd.prog 56 ⟨[s, .func (.func 57) #[] #[]]⟩ w fun r w' => r = .tuple #[] ∧ ∃ d : List Lab, d.Perm ls ∧ sortedL d ∧ LO w' B s d ∧ ∀ w0, Below B w0 w → Below B w0 w' := by
  rcases Owns.sort (enc := labC) (fun _ => rfl) ho with ⟨rfl, rfl⟩ | ⟨g, cap, rfl, hB, hg, hH, hre⟩
  · refine Calls.mono (AnyF.slices_SortFunc_none (P := Tryd.prog) (ρ := Tryd.sortL_ren) Tryd.sortL none 0 (.func (.func 57) #[] #[]) w) ?_
    rintro e w' ⟨rfl, rfl⟩
    exact ⟨_, rfl, rfl, [], List.Perm.refl _, List.Pairwise.nil, ho, fun _ h => h⟩
  · have eg : ∀ args w, (callFunc 57 args).run Tryd.prog w = .ok (.enter 57 args) w := enters_of Tryd.func57 (by kernel_rfl) rfl
    have hs := AnyQ.slices_SortFunc Tryd.sortL 2 isAggL sizeL labC (fun _ => rfl) labC1 cfL swoL 57 #[] g 0 cap ls.toArray w eg (cmpLaysL g 0 ls.toArray.size w) hH hg (by simp only [List.size_toArray]; omega)
    refine Calls.mono hs ?_
    rintro e w' ⟨rfl, d', n, os, ⟨hsz, -, hp⟩, hso, rfl⟩
    simp only [List.size_toArray] at hsz hp hso
    obtain ⟨h1, h2⟩ := hre d'.toList n os (by simpa using hsz)
    refine ⟨_, rfl, rfl, d'.toList, ?_, ?_, h1, h2⟩
    · have e1 : (d'.extract 0 ls.length).toList = d'.toList := by rw [← hsz]; simp
      have e2 : (ls.toArray.extract 0 ls.length).toList = ls := by simp
      rw [e1, e2] at hp; exact hp
    · refine List.pairwise_iff_getElem.2 fun i j hi hj hij => ?_
      have := hso i j (Nat.zero_le _) hij (by simpa [hsz] using hj)
      rw [ltL] at this
      have hi' : i < d'.size := by simpa using hi
      have hj' : j < d'.size := by simpa using hj
      rw [getElem!_pos _ i hi', getElem!_pos _ j hj'] at this
      simpa using this
end Go.Proofs.YtfffblopkaandaaDoor
open Go Go.Vg Go.RowKit Go.Proofs Go.Proofs.YtfffblopkaandaaDoor
namespace Go.Proofs.YtfffblopkaandaaDoor
set_option linter.unusedSimpArgs false
open Go.Sort

def keptL (ls : List Lab) : List Lab := ls.filter fun x => !decide (x.2 = [])
def dupAt (d : List Lab) (i : Nat) : Prop := 1 ≤ i ∧ i < d.length ∧ (labAt d i).1 = (labAt d (i - 1)).1
theorem keptL_snoc (ls : List Lab) (x : Lab) : keptL (ls ++ [x]) = if x.2 = [] then keptL ls else keptL ls ++ [x] := by
  by_cases h : x.2 = [] <;> simp [keptL, h]
/-- what New hands back: a refusal, or the sorted labels -/
def newS (ls : List Lab) (e : Int) (out : List Lab) : Prop :=
  if ls.all okB = true then ∃ d, d.Perm (keptL ls) ∧ sortedL d ∧
    ((∃ i, dupAt d i) ∧ e = 13 ∧ out = [] ∨ (∀ i, ¬ dupAt d i) ∧ (if 64 < d.length then e = 15 ∧ out = [] else e = 0 ∧ out = d)) else e = 2 ∧ out = []

theorem new_ok (v : Value) (ls : List Lab) (w : World) (hv : Labs w v ls) (hn : ls.length ≤ 1000) (hz : ∀ x ∈ ls, LabSz x) (hT : Tabs w) :
    Ret Tryd.prog 18 ⟨[v]⟩ w fun r w' => ∃ s e out, r = .tuple ⟨[s, .int .i64 e]⟩ ∧ newS ls e out ∧ LO w' w.heap.size s out ∧ Ext w w' := by
  have hbd := Labs.bound hv
  refine ret_of_G Tryd.func18 rfl Tryd.ntmps18 rfl ?_
  simp only [argEnv]
  try (first | refine gl tb ?_ | refine gg tb ?_ | refine ll tb ?_ | refine lg tb ?_); repeat ((first | refine G.condT rfl ?_ | refine G.condF rfl ?_); try (first | refine gl tb ?_ | refine gg tb ?_ | refine ll tb ?_ | refine lg tb ?_))
  refine GL.cons (Step.lenV tb rfl (Op1.of rfl (by first | exact fun _ => rfl | exact fun h => h | exact fun h => bL h | exact fun h => bL (bL h) | exact fun h => bL (bL (bL h)))) rfl (fun _ => ⟨_, hv⟩) rfl ?_)
  simp only [List.length_map]
  try (first | refine gl tb ?_ | refine gg tb ?_ | refine ll tb ?_ | refine lg tb ?_); repeat ((first | refine G.condT rfl ?_ | refine G.condF rfl ?_); try (first | refine gl tb ?_ | refine gg tb ?_ | refine ll tb ?_ | refine lg tb ?_))
  refine (G.loop (fun x : Nat × Value => [(4, none, x.2), (8, none, v), (9, none, .int .i64 ls.length), (10, none, .int .i64 x.1)]) (fun x w' => Ext w w' ∧ x.1 ≤ ls.length ∧ (ls.take x.1).all okB = true ∧ LO w' w.heap.size x.2 (keptL (ls.take x.1))) (fun x => ls.length - x.1) (0, .slice none 0 0) (by repeat (first | exact Sub.nil _ | refine Sub.cons rfl ?_)) ⟨Ext.refl _, by simp, rfl, Owns.nil _ _ _ _⟩ ?_)
  rintro ⟨k, s⟩ w1 ⟨hx1, hk, hto, ho⟩
  simp only at hk hto ho ⊢
  have hv1 := hv.to hx1
  have hkl : (keptL (ls.take k)).length ≤ k := by
    have := List.length_filter_le (fun x : Lab => !decide (x.2 = [])) (ls.take k)
    rw [List.length_take] at this
    unfold keptL; omega
  try (first | refine gl tb ?_ | refine gg tb ?_ | refine ll tb ?_ | refine lg tb ?_); repeat ((first | refine G.condT rfl ?_ | refine G.condF rfl ?_); try (first | refine gl tb ?_ | refine gg tb ?_ | refine ll tb ?_ | refine lg tb ?_))
  first | refine G.condD rfl (fun hc => ?_) (fun hc => ?_) | refine G.condN rfl (fun hc => ?_) (fun hc => ?_) | refine G.cond rfl (fun hc => ?_) (fun hc => ?_)
  · have hlt : k < ls.length := by omega
    obtain ⟨x, hmem, hget, htk, -, -⟩ := Labs.at hlt
    have hks : keptL (ls.take (k + 1)) = if x.2 = [] then keptL (ls.take k) else keptL (ls.take k) ++ [x] := by rw [htk, keptL_snoc]
    try (first | refine gl tb ?_ | refine gg tb ?_ | refine ll tb ?_ | refine lg tb ?_); repeat ((first | refine G.condT rfl ?_ | refine G.condF rfl ?_); try (first | refine gl tb ?_ | refine gg tb ?_ | refine ll tb ?_ | refine lg tb ?_))
    refine GL.cons (Step.indexAddr tb k rfl (Op1.of rfl (by first | exact fun _ => rfl | exact fun h => h | exact fun h => bL h | exact fun h => bL (bL h) | exact fun h => bL (bL (bL h)))) (Op1.of rfl (by first | exact fun _ => rfl | exact fun h => h | exact fun h => bL h | exact fun h => bL (bL h) | exact fun h => bL (bL (bL h)))) rfl rfl (fun _ => ⟨_, hv1⟩) (fun _ => ⟨by omega, by simpa using hlt⟩) rfl ?_)
    refine GL.cons (Step.loadA tb rfl (Op1.of rfl (by first | exact fun _ => rfl | exact fun h => h | exact fun h => bL h | exact fun h => bL (bL h) | exact fun h => bL (bL (bL h)))) rfl rfl rfl (fun _ => hv1.elem hget) (fun _ => rfl) rfl ?_)
    refine GL.cons (Step.alloc tb rfl rfl rfl rfl ?_)
    intro w2 hb2 hs2 hx2
    refine GL.cons (Step.store0 tb rfl (Op1.of rfl (by first | exact fun _ => rfl | exact fun h => h | exact fun h => bL h | exact fun h => bL (bL h) | exact fun h => bL (bL (bL h)))) (Op1.of rfl (by first | exact fun _ => rfl | exact fun h => h | exact fun h => bL h | exact fun h => bL (bL h) | exact fun h => bL (bL (bL h)))) rfl (rfl) rfl (labC1 x) hb2 rfl ?_)
    intro w3 hb3 hw3
    have hx3 : Ext w1 w3 := Below.wr hx2 hw3 (Nat.le_refl _)
    try (first | refine gl tb ?_ | refine gg tb ?_ | refine ll tb ?_ | refine lg tb ?_); repeat ((first | refine G.condT rfl ?_ | refine G.condF rfl ?_); try (first | refine gl tb ?_ | refine gg tb ?_ | refine ll tb ?_ | refine lg tb ?_))
    refine GL.cons (Step.loadA tb rfl (Op1.of rfl (by first | exact fun _ => rfl | exact fun h => h | exact fun h => bL h | exact fun h => bL (bL h) | exact fun h => bL (bL (bL h)))) rfl rfl rfl (fun _ => hb3.cells) (fun _ => rfl) rfl ?_)
    refine GL.cons (Step.callX rfl rfl (by repeat (first | exact OpL.nil | refine OpL.cons (Op1.of rfl (by first | exact fun _ => rfl | exact fun h => h | exact fun h => bL h | exact fun h => bL (bL h) | exact fun h => bL (bL (bL h)))) ?_)) c55 rfl (fun hc => right_ok x w3 (hz _ hmem) (hT.to (hx1.trans hx3))) ?_)
    intro w4 hx4
    have hb4 := hb3.to hx4
    have hx14 := (hx1.trans hx3).trans hx4
    have ho4 := ho.to (hx3.trans hx4)
    try (first | refine gl tb ?_ | refine gg tb ?_ | refine ll tb ?_ | refine lg tb ?_); repeat ((first | refine G.condT rfl ?_ | refine G.condF rfl ?_); try (first | refine gl tb ?_ | refine gg tb ?_ | refine ll tb ?_ | refine lg tb ?_))
    first | refine G.condD rfl (fun hc => ?_) (fun hc => ?_) | refine G.condN rfl (fun hc => ?_) (fun hc => ?_) | refine G.cond rfl (fun hc => ?_) (fun hc => ?_)
    · try (first | refine gl tb ?_ | refine gg tb ?_ | refine ll tb ?_ | refine lg tb ?_); repeat ((first | refine G.condT rfl ?_ | refine G.condF rfl ?_); try (first | refine gl tb ?_ | refine gg tb ?_ | refine ll tb ?_ | refine lg tb ?_))
      refine G.ret2 rfl rfl rfl rfl rfl ?_
      refine ⟨_, 2, [], rfl, ?_, Owns.nil _ _ _ _, hx14⟩
      unfold newS; rw [if_neg]
      · exact ⟨rfl, rfl⟩
      · intro h
        have := List.all_eq_true.1 h x hmem
        rw [this] at hc; cases hc
    · have hok : okB x = true := by simpa using hc
      try (first | refine gl tb ?_ | refine gg tb ?_ | refine ll tb ?_ | refine lg tb ?_); repeat ((first | refine G.condT rfl ?_ | refine G.condF rfl ?_); try (first | refine gl tb ?_ | refine gg tb ?_ | refine ll tb ?_ | refine lg tb ?_))
      refine GL.cons (Step.fieldAddr tb rfl (Op1.of rfl (by first | exact fun _ => rfl | exact fun h => h | exact fun h => bL h | exact fun h => bL (bL h) | exact fun h => bL (bL (bL h)))) rfl rfl rfl rfl (fun _ => (hb4.cells).ptr) rfl ?_); refine GL.cons (Step.load1 tb rfl (Op1.of rfl (by first | exact fun _ => rfl | exact fun h => h | exact fun h => bL h | exact fun h => bL (bL h) | exact fun h => bL (bL (bL h)))) rfl rfl (fun _ => (hb4.cells).cell (i := 1) rfl) rfl ?_)
      try (first | refine gl tb ?_ | refine gg tb ?_ | refine ll tb ?_ | refine lg tb ?_); repeat ((first | refine G.condT rfl ?_ | refine G.condF rfl ?_); try (first | refine gl tb ?_ | refine gg tb ?_ | refine ll tb ?_ | refine lg tb ?_))
      first | refine G.condD rfl (fun hc => ?_) (fun hc => ?_) | refine G.condN rfl (fun hc => ?_) (fun hc => ?_) | refine G.cond rfl (fun hc => ?_) (fun hc => ?_)
      · rw [if_neg (by simpa using hc)] at hks
        try (first | refine gl tb ?_ | refine gg tb ?_ | refine ll tb ?_ | refine lg tb ?_); repeat ((first | refine G.condT rfl ?_ | refine G.condF rfl ?_); try (first | refine gl tb ?_ | refine gg tb ?_ | refine ll tb ?_ | refine lg tb ?_))
        refine GL.cons (Step.loadA tb rfl (Op1.of rfl (by first | exact fun _ => rfl | exact fun h => h | exact fun h => bL h | exact fun h => bL (bL h) | exact fun h => bL (bL (bL h)))) rfl rfl rfl (fun _ => hb4.cells) (fun _ => rfl) rfl ?_)
        refine GL.cons (Step.buildSlice tb ([labC x]) rfl rfl rfl rfl rfl rfl (by rfl) rfl (by rfl) (by rfl) (by rfl) (labLen [x]) rfl ?_)
        intro s5 w5 ho5 hs5 hx5
        refine GL.cons (Step.append tb rfl (Op1.of rfl (by first | exact fun _ => rfl | exact fun h => h | exact fun h => bL h | exact fun h => bL (bL h) | exact fun h => bL (bL (bL h)))) (Op1.of rfl (by first | exact fun _ => rfl | exact fun h => h | exact fun h => bL h | exact fun h => bL (bL h) | exact fun h => bL (bL (bL h)))) rfl rfl rfl (by rfl) (ho4.to hx5) (ho5.sli) (lab1 [x]) (by simp only [List.length_map, List.length_append, List.length_cons, List.length_nil, List.length_take, List.length_drop]; omega) (by simp only [List.length_map, List.length_append, List.length_cons, List.length_nil, List.length_take, List.length_drop]; omega) (by have := (hx14.trans hx5).size; omega) rfl ?_)
        intro s6 w6 ho6 hg6
        have hx6 : Ext w w6 := hg6.below _ (hx14.trans hx5)
        try (first | refine gl tb ?_ | refine gg tb ?_ | refine ll tb ?_ | refine lg tb ?_); repeat ((first | refine G.condT rfl ?_ | refine G.condF rfl ?_); try (first | refine gl tb ?_ | refine gg tb ?_ | refine ll tb ?_ | refine lg tb ?_))
        refine GL.cons (Step.arith rfl (Op1.of rfl (by first | exact fun _ => rfl | exact fun h => h | exact fun h => bL h | exact fun h => bL (bL h) | exact fun h => bL (bL (bL h)))) (Op1.of rfl (by first | exact fun _ => rfl | exact fun h => h | exact fun h => bL h | exact fun h => bL (bL h) | exact fun h => bL (bL (bL h)))) (wrap_i64 (by omega) (by omega)) rfl ?_)
        try (first | refine gl tb ?_ | refine gg tb ?_ | refine ll tb ?_ | refine lg tb ?_); repeat ((first | refine G.condT rfl ?_ | refine G.condF rfl ?_); try (first | refine gl tb ?_ | refine gg tb ?_ | refine ll tb ?_ | refine lg tb ?_))
        refine G.lp (x := (k, s)) (k + 1, s6) (by repeat (first | exact Sub.nil _ | refine Sub.cons rfl ?_)) ⟨hx6, by simp only; omega, ?_, ?_⟩ (by simp only; omega)
        · simp only [htk, List.all_append, hto, List.all_cons, List.all_nil, hok, Bool.and_true]
        · simp only [hks, LO, List.map_append]; exact ho6
      · rw [if_pos (by simpa using hc)] at hks
        try (first | refine gl tb ?_ | refine gg tb ?_ | refine ll tb ?_ | refine lg tb ?_); repeat ((first | refine G.condT rfl ?_ | refine G.condF rfl ?_); try (first | refine gl tb ?_ | refine gg tb ?_ | refine ll tb ?_ | refine lg tb ?_))
        refine GL.cons (Step.arith rfl (Op1.of rfl (by first | exact fun _ => rfl | exact fun h => h | exact fun h => bL h | exact fun h => bL (bL h) | exact fun h => bL (bL (bL h)))) (Op1.of rfl (by first | exact fun _ => rfl | exact fun h => h | exact fun h => bL h | exact fun h => bL (bL h) | exact fun h => bL (bL (bL h)))) (wrap_i64 (by omega) (by omega)) rfl ?_)
        try (first | refine gl tb ?_ | refine gg tb ?_ | refine ll tb ?_ | refine lg tb ?_); repeat ((first | refine G.condT rfl ?_ | refine G.condF rfl ?_); try (first | refine gl tb ?_ | refine gg tb ?_ | refine ll tb ?_ | refine lg tb ?_))
        refine G.lp (x := (k, s)) (k + 1, s) (by repeat (first | exact Sub.nil _ | refine Sub.cons rfl ?_)) ⟨hx14, by simp only; omega, ?_, ?_⟩ (by simp only; omega)
        · simp only [htk, List.all_append, hto, List.all_cons, List.all_nil, hok, Bool.and_true]
        · simp only [hks]; exact ho4
  · have hke : k = ls.length := by omega
    subst hke
    rw [List.take_length] at hto ho hkl
    try (first | refine gl tb ?_ | refine gg tb ?_ | refine ll tb ?_ | refine lg tb ?_); repeat ((first | refine G.condT rfl ?_ | refine G.condF rfl ?_); try (first | refine gl tb ?_ | refine gg tb ?_ | refine ll tb ?_ | refine lg tb ?_))
    refine GL.cons (Step.callF rfl rfl rfl c56 rfl (sort_ok s (keptL ls) w.heap.size w1 ho (by omega)) ?_)
    rintro _ w2 ⟨rfl, d, hperm, hsort, ho2, hbw⟩
    have hx2 : Ext w w2 := hbw _ hx1
    have hdl : d.length = (keptL ls).length := hperm.length_eq
    have hS : ∀ e out, ((∃ i, dupAt d i) ∧ e = 13 ∧ out = [] ∨ (∀ i, ¬ dupAt d i) ∧ (if 64 < d.length then e = 15 ∧ out = [] else e = 0 ∧ out = d)) → newS ls e out := by
      intro e out h
      unfold newS; rw [if_pos hto]; exact ⟨d, hperm, hsort, h⟩
    try (first | refine gl tb ?_ | refine gg tb ?_ | refine ll tb ?_ | refine lg tb ?_); repeat ((first | refine G.condT rfl ?_ | refine G.condF rfl ?_); try (first | refine gl tb ?_ | refine gg tb ?_ | refine ll tb ?_ | refine lg tb ?_))
    refine (G.loop (fun i : Nat => [(4, none, s), (7, none, .int .i64 (i + 1 : Nat))]) (fun i w' => Ext w w' ∧ LO w' w.heap.size s d ∧ (i = 0 ∨ i < d.length) ∧ ∀ j, j ≤ i → ¬ dupAt d j) (fun i => d.length - i) 0 (by repeat (first | exact Sub.nil _ | refine Sub.cons rfl ?_)) ⟨hx2, ho2, .inl rfl, fun j hj h => by obtain ⟨h1, _⟩ := h; omega⟩ ?_)
    rintro i w3 ⟨hx3, ho3, hi, hto3⟩
    try (first | refine gl tb ?_ | refine gg tb ?_ | refine ll tb ?_ | refine lg tb ?_); repeat ((first | refine G.condT rfl ?_ | refine G.condF rfl ?_); try (first | refine gl tb ?_ | refine gg tb ?_ | refine ll tb ?_ | refine lg tb ?_))
    refine GL.cons (Step.lenV tb rfl (Op1.of rfl (by first | exact fun _ => rfl | exact fun h => h | exact fun h => bL h | exact fun h => bL (bL h) | exact fun h => bL (bL (bL h)))) rfl (fun _ => ⟨_, ho3.sli⟩) rfl ?_)
    simp only [List.length_map]
    try (first | refine gl tb ?_ | refine gg tb ?_ | refine ll tb ?_ | refine lg tb ?_); repeat ((first | refine G.condT rfl ?_ | refine G.condF rfl ?_); try (first | refine gl tb ?_ | refine gg tb ?_ | refine ll tb ?_ | refine lg tb ?_))
    first | refine G.condD rfl (fun hc => ?_) (fun hc => ?_) | refine G.condN rfl (fun hc => ?_) (fun hc => ?_) | refine G.cond rfl (fun hc => ?_) (fun hc => ?_)
    · have hlt : i + 1 < d.length := by omega
      have hlt0 : i < d.length := by omega
      try (first | refine gl tb ?_ | refine gg tb ?_ | refine ll tb ?_ | refine lg tb ?_); repeat ((first | refine G.condT rfl ?_ | refine G.condF rfl ?_); try (first | refine gl tb ?_ | refine gg tb ?_ | refine ll tb ?_ | refine lg tb ?_))
      refine G.regionM [(0, true), (1, true), (2, true), (3, true), (4, true), (5, true), (6, true), (7, true), (8, true), (9, true), (10, true), (11, true)] (Ext w3) (by kernel_rfl) (by kernel_rfl) rfl mixed (Ext.drew w3) rfl ?_
      have ho4 := fun w' (hS : Ext w3 w') => (ho3.to hS).sli
      have g1 := Labs.getD hlt
      have g0 := Labs.getD hlt0
      have hcas : ((i + 1 : Nat) : Int) - 1 = (i : Int) := by omega
      have hdb : d.length ≤ 1000 := by omega
      repeat (first
    | refine GM.nil ?_
    | refine GM.read (fun w' hS => Step.move rfl (Op1.of rfl (by first | exact fun _ => rfl | exact fun h => h | exact fun h => bL h | exact fun h => bL (bL h) | exact fun h => bL (bL (bL h)))) rfl ⟨rfl, rfl⟩) rfl rfl ?_
    | refine GM.read (fun w' hS => Step.assign rfl (Op1.of rfl (by first | exact fun _ => rfl | exact fun h => h | exact fun h => bL h | exact fun h => bL (bL h) | exact fun h => bL (bL (bL h)))) rfl ⟨rfl, rfl⟩) rfl rfl ?_
    | refine GM.read (fun w' hS => Step.bin rfl (Op1.of rfl (by first | exact fun _ => rfl | exact fun h => h | exact fun h => bL h | exact fun h => bL (bL h) | exact fun h => bL (bL (bL h)))) (Op1.of rfl (by first | exact fun _ => rfl | exact fun h => h | exact fun h => bL h | exact fun h => bL (bL h) | exact fun h => bL (bL (bL h)))) rfl rfl ⟨rfl, rfl⟩) rfl rfl ?_
    | refine GM.read (fun w' hS => Step.and rfl (Op1.of rfl (by first | exact fun _ => rfl | exact fun h => h | exact fun h => bL h | exact fun h => bL (bL h) | exact fun h => bL (bL (bL h)))) rfl (by first | exact fun _ _ => rfl | exact fun _ h => h | exact fun _ h => bNot h | exact fun h k => bAnd h k | exact fun h k => bAnd h (bNot k)) rfl ⟨rfl, rfl⟩) rfl rfl ?_
    | refine GM.read (fun w' hS => Step.or rfl (Op1.of rfl (by first | exact fun _ => rfl | exact fun h => h | exact fun h => bL h | exact fun h => bL (bL h) | exact fun h => bL (bL (bL h)))) rfl (by first | exact fun _ _ => rfl | exact fun _ h => h | exact fun _ h => bNot h | exact fun h k => bAnd h k | exact fun h k => bAnd h (bNot k)) rfl ⟨rfl, rfl⟩) rfl rfl ?_
    | refine GM.read (fun w' hS => Step.lenS tb rfl (Op1.of rfl (by first | exact fun _ => rfl | exact fun h => h | exact fun h => bL h | exact fun h => bL (bL h) | exact fun h => bL (bL (bL h)))) rfl rfl ⟨rfl, rfl⟩) rfl rfl ?_
    | refine GM.read (fun w' hS => Step.un rfl (Op1.of rfl (by first | exact fun _ => rfl | exact fun h => h | exact fun h => bL h | exact fun h => bL (bL h) | exact fun h => bL (bL (bL h)))) rfl rfl ⟨rfl, rfl⟩) rfl rfl ?_
    | refine GM.read (fun w' hS => Step.extract rfl (Op1.of rfl (by first | exact fun _ => rfl | exact fun h => h | exact fun h => bL h | exact fun h => bL (bL h) | exact fun h => bL (bL (bL h)))) rfl rfl ⟨rfl, rfl⟩) rfl rfl ?_)
      refine GM.read (fun w' hS => Step.indexAddr tb (i + 1) rfl (Op1.of rfl (by first | exact fun _ => rfl | exact fun h => h | exact fun h => bL h | exact fun h => bL (bL h) | exact fun h => bL (bL (bL h)))) (Op1.of rfl (by first | exact fun _ => rfl | exact fun h => h | exact fun h => bL h | exact fun h => bL (bL h) | exact fun h => bL (bL (bL h)))) rfl rfl (fun hc => ⟨_, ho4 w' hS⟩) (fun hc => ⟨rfl, by rw [List.length_map]; exact hlt⟩) rfl ⟨rfl, rfl⟩) rfl rfl ?_
      refine GM.read (fun w' hS => Step.fieldAddr tb rfl (Op1.of rfl (by first | exact fun _ => rfl | exact fun h => h | exact fun h => bL h | exact fun h => bL (bL h) | exact fun h => bL (bL (bL h)))) rfl rfl rfl rfl (fun hc => ((ho4 w' hS).elem g1).ptr) rfl ⟨rfl, rfl⟩) rfl rfl ?_; refine GM.read (fun w' hS => Step.load1 tb rfl (Op1.of rfl (by first | exact fun _ => rfl | exact fun h => h | exact fun h => bL h | exact fun h => bL (bL h) | exact fun h => bL (bL (bL h)))) rfl rfl (fun hc => ((ho4 w' hS).elem g1).cell (i := 0) rfl) rfl ⟨rfl, rfl⟩) rfl rfl ?_
      repeat (first
    | refine GM.nil ?_
    | refine GM.read (fun w' hS => Step.move rfl (Op1.of rfl (by first | exact fun _ => rfl | exact fun h => h | exact fun h => bL h | exact fun h => bL (bL h) | exact fun h => bL (bL (bL h)))) rfl ⟨rfl, rfl⟩) rfl rfl ?_
    | refine GM.read (fun w' hS => Step.assign rfl (Op1.of rfl (by first | exact fun _ => rfl | exact fun h => h | exact fun h => bL h | exact fun h => bL (bL h) | exact fun h => bL (bL (bL h)))) rfl ⟨rfl, rfl⟩) rfl rfl ?_
    | refine GM.read (fun w' hS => Step.bin rfl (Op1.of rfl (by first | exact fun _ => rfl | exact fun h => h | exact fun h => bL h | exact fun h => bL (bL h) | exact fun h => bL (bL (bL h)))) (Op1.of rfl (by first | exact fun _ => rfl | exact fun h => h | exact fun h => bL h | exact fun h => bL (bL h) | exact fun h => bL (bL (bL h)))) rfl rfl ⟨rfl, rfl⟩) rfl rfl ?_
    | refine GM.read (fun w' hS => Step.and rfl (Op1.of rfl (by first | exact fun _ => rfl | exact fun h => h | exact fun h => bL h | exact fun h => bL (bL h) | exact fun h => bL (bL (bL h)))) rfl (by first | exact fun _ _ => rfl | exact fun _ h => h | exact fun _ h => bNot h | exact fun h k => bAnd h k | exact fun h k => bAnd h (bNot k)) rfl ⟨rfl, rfl⟩) rfl rfl ?_
    | refine GM.read (fun w' hS => Step.or rfl (Op1.of rfl (by first | exact fun _ => rfl | exact fun h => h | exact fun h => bL h | exact fun h => bL (bL h) | exact fun h => bL (bL (bL h)))) rfl (by first | exact fun _ _ => rfl | exact fun _ h => h | exact fun _ h => bNot h | exact fun h k => bAnd h k | exact fun h k => bAnd h (bNot k)) rfl ⟨rfl, rfl⟩) rfl rfl ?_
    | refine GM.read (fun w' hS => Step.lenS tb rfl (Op1.of rfl (by first | exact fun _ => rfl | exact fun h => h | exact fun h => bL h | exact fun h => bL (bL h) | exact fun h => bL (bL (bL h)))) rfl rfl ⟨rfl, rfl⟩) rfl rfl ?_
    | refine GM.read (fun w' hS => Step.un rfl (Op1.of rfl (by first | exact fun _ => rfl | exact fun h => h | exact fun h => bL h | exact fun h => bL (bL h) | exact fun h => bL (bL (bL h)))) rfl rfl ⟨rfl, rfl⟩) rfl rfl ?_
    | refine GM.read (fun w' hS => Step.extract rfl (Op1.of rfl (by first | exact fun _ => rfl | exact fun h => h | exact fun h => bL h | exact fun h => bL (bL h) | exact fun h => bL (bL (bL h)))) rfl rfl ⟨rfl, rfl⟩) rfl rfl ?_)
      refine GM.read (fun w' hS => Step.arith rfl (Op1.of rfl (by first | exact fun _ => rfl | exact fun h => h | exact fun h => bL h | exact fun h => bL (bL h) | exact fun h => bL (bL (bL h)))) (Op1.of rfl (by first | exact fun _ => rfl | exact fun h => h | exact fun h => bL h | exact fun h => bL (bL h) | exact fun h => bL (bL (bL h)))) (wrap_i64 (by omega) (by omega)) rfl ⟨rfl, rfl⟩) rfl rfl ?_
      rw [hcas]
      refine GM.read (fun w' hS => Step.indexAddr tb i rfl (Op1.of rfl (by first | exact fun _ => rfl | exact fun h => h | exact fun h => bL h | exact fun h => bL (bL h) | exact fun h => bL (bL (bL h)))) (Op1.of rfl (by first | exact fun _ => rfl | exact fun h => h | exact fun h => bL h | exact fun h => bL (bL h) | exact fun h => bL (bL (bL h)))) rfl rfl (fun hc => ⟨_, ho4 w' hS⟩) (fun hc => ⟨rfl, by rw [List.length_map]; exact hlt0⟩) rfl ⟨rfl, rfl⟩) rfl rfl ?_
      refine GM.read (fun w' hS => Step.fieldAddr tb rfl (Op1.of rfl (by first | exact fun _ => rfl | exact fun h => h | exact fun h => bL h | exact fun h => bL (bL h) | exact fun h => bL (bL (bL h)))) rfl rfl rfl rfl (fun hc => ((ho4 w' hS).elem g0).ptr) rfl ⟨rfl, rfl⟩) rfl rfl ?_; refine GM.read (fun w' hS => Step.load1 tb rfl (Op1.of rfl (by first | exact fun _ => rfl | exact fun h => h | exact fun h => bL h | exact fun h => bL (bL h) | exact fun h => bL (bL (bL h)))) rfl rfl (fun hc => ((ho4 w' hS).elem g0).cell (i := 0) rfl) rfl ⟨rfl, rfl⟩) rfl rfl ?_
      repeat (first
    | refine GM.nil ?_
    | refine GM.read (fun w' hS => Step.move rfl (Op1.of rfl (by first | exact fun _ => rfl | exact fun h => h | exact fun h => bL h | exact fun h => bL (bL h) | exact fun h => bL (bL (bL h)))) rfl ⟨rfl, rfl⟩) rfl rfl ?_
    | refine GM.read (fun w' hS => Step.assign rfl (Op1.of rfl (by first | exact fun _ => rfl | exact fun h => h | exact fun h => bL h | exact fun h => bL (bL h) | exact fun h => bL (bL (bL h)))) rfl ⟨rfl, rfl⟩) rfl rfl ?_
    | refine GM.read (fun w' hS => Step.bin rfl (Op1.of rfl (by first | exact fun _ => rfl | exact fun h => h | exact fun h => bL h | exact fun h => bL (bL h) | exact fun h => bL (bL (bL h)))) (Op1.of rfl (by first | exact fun _ => rfl | exact fun h => h | exact fun h => bL h | exact fun h => bL (bL h) | exact fun h => bL (bL (bL h)))) rfl rfl ⟨rfl, rfl⟩) rfl rfl ?_
    | refine GM.read (fun w' hS => Step.and rfl (Op1.of rfl (by first | exact fun _ => rfl | exact fun h => h | exact fun h => bL h | exact fun h => bL (bL h) | exact fun h => bL (bL (bL h)))) rfl (by first | exact fun _ _ => rfl | exact fun _ h => h | exact fun _ h => bNot h | exact fun h k => bAnd h k | exact fun h k => bAnd h (bNot k)) rfl ⟨rfl, rfl⟩) rfl rfl ?_
    | refine GM.read (fun w' hS => Step.or rfl (Op1.of rfl (by first | exact fun _ => rfl | exact fun h => h | exact fun h => bL h | exact fun h => bL (bL h) | exact fun h => bL (bL (bL h)))) rfl (by first | exact fun _ _ => rfl | exact fun _ h => h | exact fun _ h => bNot h | exact fun h k => bAnd h k | exact fun h k => bAnd h (bNot k)) rfl ⟨rfl, rfl⟩) rfl rfl ?_
    | refine GM.read (fun w' hS => Step.lenS tb rfl (Op1.of rfl (by first | exact fun _ => rfl | exact fun h => h | exact fun h => bL h | exact fun h => bL (bL h) | exact fun h => bL (bL (bL h)))) rfl rfl ⟨rfl, rfl⟩) rfl rfl ?_
    | refine GM.read (fun w' hS => Step.un rfl (Op1.of rfl (by first | exact fun _ => rfl | exact fun h => h | exact fun h => bL h | exact fun h => bL (bL h) | exact fun h => bL (bL (bL h)))) rfl rfl ⟨rfl, rfl⟩) rfl rfl ?_
    | refine GM.read (fun w' hS => Step.extract rfl (Op1.of rfl (by first | exact fun _ => rfl | exact fun h => h | exact fun h => bL h | exact fun h => bL (bL h) | exact fun h => bL (bL (bL h)))) rfl rfl ⟨rfl, rfl⟩) rfl rfl ?_)
      first | refine G.condD rfl (fun hc => ?_) (fun hc => ?_) | refine G.condN rfl (fun hc => ?_) (fun hc => ?_) | refine G.cond rfl (fun hc => ?_) (fun hc => ?_)
      · try (first | refine gl tb ?_ | refine gg tb ?_ | refine ll tb ?_ | refine lg tb ?_); repeat ((first | refine G.condT rfl ?_ | refine G.condF rfl ?_); try (first | refine gl tb ?_ | refine gg tb ?_ | refine ll tb ?_ | refine lg tb ?_))
        refine G.ret2 rfl rfl rfl rfl rfl ?_
        exact ⟨_, 13, [], rfl, hS _ _ (.inl ⟨⟨i + 1, by omega, hlt, hc⟩, rfl, rfl⟩), Owns.nil _ _ _ _, hx3.drew'⟩
      · try (first | refine gl tb ?_ | refine gg tb ?_ | refine ll tb ?_ | refine lg tb ?_); repeat ((first | refine G.condT rfl ?_ | refine G.condF rfl ?_); try (first | refine gl tb ?_ | refine gg tb ?_ | refine ll tb ?_ | refine lg tb ?_))
        refine GL.cons (Step.arith rfl (Op1.of rfl (by first | exact fun _ => rfl | exact fun h => h | exact fun h => bL h | exact fun h => bL (bL h) | exact fun h => bL (bL (bL h)))) (Op1.of rfl (by first | exact fun _ => rfl | exact fun h => h | exact fun h => bL h | exact fun h => bL (bL h) | exact fun h => bL (bL (bL h)))) (wrap_i64 (by omega) (by omega)) rfl ?_)
        try (first | refine gl tb ?_ | refine gg tb ?_ | refine ll tb ?_ | refine lg tb ?_); repeat ((first | refine G.condT rfl ?_ | refine G.condF rfl ?_); try (first | refine gl tb ?_ | refine gg tb ?_ | refine ll tb ?_ | refine lg tb ?_))
        refine G.lp (i + 1) (by repeat (first | exact Sub.nil _ | refine Sub.cons rfl ?_)) ⟨hx3.drew', ho3.to (Ext.drew w3), .inr hlt, fun j hj h => ?_⟩ (by omega)
        by_cases hji : j ≤ i
        · exact hto3 j hji h
        · obtain rfl : j = i + 1 := by omega
          exact hc h.2.2
    · have hno : ∀ j, ¬ dupAt d j := fun j h => by
        by_cases hj : j ≤ i
        · exact hto3 j hj h
        · obtain ⟨_, h2, _⟩ := h; omega
      try (first | refine gl tb ?_ | refine gg tb ?_ | refine ll tb ?_ | refine lg tb ?_); repeat ((first | refine G.condT rfl ?_ | refine G.condF rfl ?_); try (first | refine gl tb ?_ | refine gg tb ?_ | refine ll tb ?_ | refine lg tb ?_))
      refine GL.cons (Step.lenV tb rfl (Op1.of rfl (by first | exact fun _ => rfl | exact fun h => h | exact fun h => bL h | exact fun h => bL (bL h) | exact fun h => bL (bL (bL h)))) rfl (fun _ => ⟨_, ho3.sli⟩) rfl ?_)
      simp only [List.length_map]
      try (first | refine gl tb ?_ | refine gg tb ?_ | refine ll tb ?_ | refine lg tb ?_); repeat ((first | refine G.condT rfl ?_ | refine G.condF rfl ?_); try (first | refine gl tb ?_ | refine gg tb ?_ | refine ll tb ?_ | refine lg tb ?_))
      first | refine G.condD rfl (fun hc => ?_) (fun hc => ?_) | refine G.condN rfl (fun hc => ?_) (fun hc => ?_) | refine G.cond rfl (fun hc => ?_) (fun hc => ?_)
      · try (first | refine gl tb ?_ | refine gg tb ?_ | refine ll tb ?_ | refine lg tb ?_); repeat ((first | refine G.condT rfl ?_ | refine G.condF rfl ?_); try (first | refine gl tb ?_ | refine gg tb ?_ | refine ll tb ?_ | refine lg tb ?_))
        refine G.ret2 rfl rfl rfl rfl rfl ?_
        exact ⟨_, 15, [], rfl, hS _ _ (.inr ⟨hno, by rw [if_pos (by omega)]; exact ⟨rfl, rfl⟩⟩), Owns.nil _ _ _ _, hx3⟩
      · try (first | refine gl tb ?_ | refine gg tb ?_ | refine ll tb ?_ | refine lg tb ?_); repeat ((first | refine G.condT rfl ?_ | refine G.condF rfl ?_); try (first | refine gl tb ?_ | refine gg tb ?_ | refine ll tb ?_ | refine lg tb ?_))
        refine G.ret2 rfl rfl rfl rfl rfl ?_
        exact ⟨_, 0, d, rfl, hS _ _ (.inr ⟨hno, by rw [if_neg (by omega)]; exact ⟨rfl, rfl⟩⟩), ho3, hx3⟩
end Go.Proofs.YtfffblopkaandaaDoor
open Go Go.Vg Go.RowKit Go.Proofs Go.Proofs.YtfffblopkaandaaDoor
namespace Go.Proofs.YtfffblopkaandaaDoor
set_option linter.unusedSimpArgs false

abbrev Bld (w : World) (B b : Nat) (l : List UInt8) : Prop := Lib.IsBuilder 94 5 B b (Lib.byteCells l) w
theorem wbyte_ok (B b : Nat) (l : List UInt8) (c : UInt8) (w : World) (h : Bld w B b l) (hl : l.length + 1 ≤ 140737488355328) (hB : B ≤ w.heap.size) :
    Ret Tryd.prog 83 ⟨[ptr b, U c]⟩ w fun r w' => r = .nilIface ∧ Bld w' B b (l ++ [c]) ∧ Below B w w' :=
  Calls.mono (Any.Builder_WriteByte Tryd.lays167 Tryd.Builder_Extra_167 B b (Lib.byteCells l) c.toNat w h (by rw [Lib.byteCells_length]; exact hl) hB) fun _ _ ⟨he, h1, h2⟩ =>
    ⟨_, he, rfl, .inr (by rw [Lib.byteCells_append]; exact h1), h2⟩
theorem wstr_ok (B b : Nat) (l s : List UInt8) (w : World) (h : Bld w B b l) (hl : l.length + s.length ≤ 140737488355328) (hB : B ≤ w.heap.size) :
    Ret Tryd.prog 84 ⟨[ptr b, S s]⟩ w fun _ w' => Bld w' B b (l ++ s) ∧ Below B w w' :=
  Calls.mono (Any.Builder_WriteString Tryd.lays166 Tryd.Builder_Extra_156 B b (Lib.byteCells l) ⟨⟨s⟩⟩ w h (by rw [Lib.byteCells_length]; exact hl) hB) fun _ _ ⟨he, h1, h2⟩ =>
    ⟨_, he, .inr (by rw [Lib.byteCells_append]; exact h1), h2⟩
theorem bstr_ok (B b : Nat) (l : List UInt8) (w : World) (h : Bld w B b l) (hB : B ≤ w.heap.size) :
    Ret Tryd.prog 85 ⟨[ptr b]⟩ w fun r w' => r = S l ∧ Below B w w' :=
  Calls.mono (Any.Builder_String_any Tryd.lays169 Tryd.Builder_Extra_156 B b l w h hB) fun _ _ ⟨he, h2⟩ => ⟨_, he, rfl, h2⟩

def escB (c : UInt8) : List UInt8 := if (c.toNat : Int) = 34 ∨ (c.toNat : Int) = 92 then [92, c] else if (c.toNat : Int) = 10 then [92, 110] else [c]
def escL (s : List UInt8) : List UInt8 := s.flatMap escB
def quoteL (s : List UInt8) : List UInt8 := 34 :: escL s ++ [34]
theorem escL_len (s : List UInt8) : (escL s).length ≤ 2 * s.length := by
  induction s with
  | nil => simp [escL]
  | cons a r ih =>
    have : (escB a).length ≤ 2 := by unfold escB; split <;> (try split) <;> simp
    simp only [escL, List.flatMap_cons, List.length_append, List.length_cons] at ih ⊢; omega
theorem escL_snoc (s : List UInt8) (c : UInt8) : escL (s ++ [c]) = escL s ++ escB c := by simp [escL]
theorem take_byte {s : List UInt8} {k : Nat} (h : k < s.length) : s.take (k + 1) = s.take k ++ [s.getD k 0] := by
  rw [List.take_succ_eq_append_getElem h]; simp [List.getD, h]

theorem quoted_ok (s : List UInt8) (w : World) (hs : s.length ≤ 1000000) :
    Ret Tryd.prog 70 ⟨[S s]⟩ w fun r w' => r = S (quoteL s) ∧ Ext w w' := by
  refine ret_of_G Tryd.func70 rfl Tryd.ntmps70 rfl ?_
  simp only [argEnv]
  try (first | refine gl tb ?_ | refine gg tb ?_ | refine ll tb ?_ | refine lg tb ?_); repeat ((first | refine G.condT rfl ?_ | refine G.condF rfl ?_); try (first | refine gl tb ?_ | refine gg tb ?_ | refine ll tb ?_ | refine lg tb ?_))
  refine GL.cons (Step.allocE tb rfl rfl rfl rfl ?_)
  have hx1 : Ext w (w.alloc (.cells ⟨[.pointer none, .slice none 0 0]⟩ 94)) := Ext.alloc _ _
  have hb1 : Bld (w.alloc (.cells ⟨[.pointer none, .slice none 0 0]⟩ 94)) w.heap.size w.heap.size [] :=
    .inl ⟨Nat.le_refl _, _, heap_alloc_new _ _, World.ownsRow_nil _ _ _ _, by simp [Value.ownBlock]⟩
  generalize w.alloc (.cells ⟨[.pointer none, .slice none 0 0]⟩ 94) = w1 at hx1 hb1 ⊢
  try (first | refine gl tb ?_ | refine gg tb ?_ | refine ll tb ?_ | refine lg tb ?_); repeat ((first | refine G.condT rfl ?_ | refine G.condF rfl ?_); try (first | refine gl tb ?_ | refine gg tb ?_ | refine ll tb ?_ | refine lg tb ?_))
  refine GL.cons (Step.callF rfl rfl rfl c83 rfl (wbyte_ok w.heap.size w.heap.size [] 34 w1 hb1 (by simp) hx1.size) ?_)
  rintro _ w2 ⟨rfl, hb2, hx2⟩
  have hx2 : Ext w w2 := Below.trans (B := w.heap.size) hx1 hx2
  try (first | refine gl tb ?_ | refine gg tb ?_ | refine ll tb ?_ | refine lg tb ?_); repeat ((first | refine G.condT rfl ?_ | refine G.condF rfl ?_); try (first | refine gl tb ?_ | refine gg tb ?_ | refine ll tb ?_ | refine lg tb ?_))
  refine (G.loop (fun k : Nat => [(0, none, S s), (3, none, ptr w.heap.size), (8, none, .int .i64 s.length), (9, none, .int .i64 k)]) (fun k w' => Ext w w' ∧ k ≤ s.length ∧ Bld w' w.heap.size w.heap.size (34 :: escL (s.take k))) (fun k => s.length - k) 0 (by repeat (first | exact Sub.nil _ | refine Sub.cons rfl ?_)) ⟨hx2, by omega, hb2⟩ ?_)
  clear hb2 hx2 hb1 hx1
  rintro k w3 ⟨hx3, hk, hb3⟩
  have hel := escL_len (s.take k)
  rw [List.length_take] at hel
  try (first | refine gl tb ?_ | refine gg tb ?_ | refine ll tb ?_ | refine lg tb ?_); repeat ((first | refine G.condT rfl ?_ | refine G.condF rfl ?_); try (first | refine gl tb ?_ | refine gg tb ?_ | refine ll tb ?_ | refine lg tb ?_))
  first | refine G.condD rfl (fun hc => ?_) (fun hc => ?_) | refine G.condN rfl (fun hc => ?_) (fun hc => ?_) | refine G.cond rfl (fun hc => ?_) (fun hc => ?_)
  · have hlt : k < s.length := by omega
    have hes : escL (s.take (k + 1)) = escL (s.take k) ++ escB (s.getD k 0) := by rw [take_byte hlt, escL_snoc]
    try (first | refine gl tb ?_ | refine gg tb ?_ | refine ll tb ?_ | refine lg tb ?_); repeat ((first | refine G.condT rfl ?_ | refine G.condF rfl ?_); try (first | refine gl tb ?_ | refine gg tb ?_ | refine ll tb ?_ | refine lg tb ?_))
    refine GL.cons (Step.indexS tb k rfl (Op1.of rfl (by first | exact fun _ => rfl | exact fun h => h | exact fun h => bL h | exact fun h => bL (bL h) | exact fun h => bL (bL (bL h)))) (Op1.of rfl (by first | exact fun _ => rfl | exact fun h => h | exact fun h => bL h | exact fun h => bL (bL h) | exact fun h => bL (bL (bL h)))) rfl (fun _ => ⟨by omega, by omega⟩) rfl ?_)
    generalize s.getD k 0 = c at hes ⊢
    try (first | refine gl tb ?_ | refine gg tb ?_ | refine ll tb ?_ | refine lg tb ?_); repeat ((first | refine G.condT rfl ?_ | refine G.condF rfl ?_); try (first | refine gl tb ?_ | refine gg tb ?_ | refine ll tb ?_ | refine lg tb ?_))
    first | refine G.condD rfl (fun hc => ?_) (fun hc => ?_) | refine G.condN rfl (fun hc => ?_) (fun hc => ?_) | refine G.cond rfl (fun hc => ?_) (fun hc => ?_)
    · try (first | refine gl tb ?_ | refine gg tb ?_ | refine ll tb ?_ | refine lg tb ?_); repeat ((first | refine G.condT rfl ?_ | refine G.condF rfl ?_); try (first | refine gl tb ?_ | refine gg tb ?_ | refine ll tb ?_ | refine lg tb ?_))
      have hc0 := hc
      first | refine G.condD rfl (fun hc => ?_) (fun hc => ?_) | refine G.condN rfl (fun hc => ?_) (fun hc => ?_) | refine G.cond rfl (fun hc => ?_) (fun hc => ?_)
      · try (first | refine gl tb ?_ | refine gg tb ?_ | refine ll tb ?_ | refine lg tb ?_); repeat ((first | refine G.condT rfl ?_ | refine G.condF rfl ?_); try (first | refine gl tb ?_ | refine gg tb ?_ | refine ll tb ?_ | refine lg tb ?_))
        have he : escB c = [92, c] := by unfold escB; rw [if_pos (by omega)]
        refine GL.cons (Step.callF rfl rfl rfl c83 rfl (wbyte_ok w.heap.size w.heap.size _ 92 w3 hb3 (by simp only [List.length_cons]; omega) hx3.size) ?_)
        rintro _ w4 ⟨rfl, hb4, hx4⟩
        have hx4 : Ext w w4 := Below.trans (B := w.heap.size) hx3 hx4
        try (first | refine gl tb ?_ | refine gg tb ?_ | refine ll tb ?_ | refine lg tb ?_); repeat ((first | refine G.condT rfl ?_ | refine G.condF rfl ?_); try (first | refine gl tb ?_ | refine gg tb ?_ | refine ll tb ?_ | refine lg tb ?_))
        refine GL.cons (Step.callF rfl rfl rfl c83 rfl (wbyte_ok w.heap.size w.heap.size _ c w4 hb4 (by simp only [List.length_cons, List.length_append, List.length_nil]; omega) hx4.size) ?_)
        rintro _ w5 ⟨rfl, hb5, hx5⟩
        have hx5 : Ext w w5 := Below.trans (B := w.heap.size) hx4 hx5
        try (first | refine gl tb ?_ | refine gg tb ?_ | refine ll tb ?_ | refine lg tb ?_); repeat ((first | refine G.condT rfl ?_ | refine G.condF rfl ?_); try (first | refine gl tb ?_ | refine gg tb ?_ | refine ll tb ?_ | refine lg tb ?_))
        refine GL.cons (Step.arith rfl (Op1.of rfl (by first | exact fun _ => rfl | exact fun h => h | exact fun h => bL h | exact fun h => bL (bL h) | exact fun h => bL (bL (bL h)))) (Op1.of rfl (by first | exact fun _ => rfl | exact fun h => h | exact fun h => bL h | exact fun h => bL (bL h) | exact fun h => bL (bL (bL h)))) (wrap_i64 (by omega) (by omega)) rfl ?_)
        try (first | refine gl tb ?_ | refine gg tb ?_ | refine ll tb ?_ | refine lg tb ?_); repeat ((first | refine G.condT rfl ?_ | refine G.condF rfl ?_); try (first | refine gl tb ?_ | refine gg tb ?_ | refine ll tb ?_ | refine lg tb ?_))
        exact G.lp (k + 1) (by repeat (first | exact Sub.nil _ | refine Sub.cons rfl ?_)) ⟨hx5, by omega, by rw [hes, he]; simpa using hb5⟩ (by omega)
      · exact absurd hc0 hc
    · have hc1 := hc
      try (first | refine gl tb ?_ | refine gg tb ?_ | refine ll tb ?_ | refine lg tb ?_); repeat ((first | refine G.condT rfl ?_ | refine G.condF rfl ?_); try (first | refine gl tb ?_ | refine gg tb ?_ | refine ll tb ?_ | refine lg tb ?_))
      first | refine G.condD rfl (fun hc => ?_) (fun hc => ?_) | refine G.condN rfl (fun hc => ?_) (fun hc => ?_) | refine G.cond rfl (fun hc => ?_) (fun hc => ?_)
      · try (first | refine gl tb ?_ | refine gg tb ?_ | refine ll tb ?_ | refine lg tb ?_); repeat ((first | refine G.condT rfl ?_ | refine G.condF rfl ?_); try (first | refine gl tb ?_ | refine gg tb ?_ | refine ll tb ?_ | refine lg tb ?_))
        have he : escB c = [92, c] := by unfold escB; rw [if_pos (by omega)]
        refine GL.cons (Step.callF rfl rfl rfl c83 rfl (wbyte_ok w.heap.size w.heap.size _ 92 w3 hb3 (by simp only [List.length_cons]; omega) hx3.size) ?_)
        rintro _ w4 ⟨rfl, hb4, hx4⟩
        have hx4 : Ext w w4 := Below.trans (B := w.heap.size) hx3 hx4
        try (first | refine gl tb ?_ | refine gg tb ?_ | refine ll tb ?_ | refine lg tb ?_); repeat ((first | refine G.condT rfl ?_ | refine G.condF rfl ?_); try (first | refine gl tb ?_ | refine gg tb ?_ | refine ll tb ?_ | refine lg tb ?_))
        refine GL.cons (Step.callF rfl rfl rfl c83 rfl (wbyte_ok w.heap.size w.heap.size _ c w4 hb4 (by simp only [List.length_cons, List.length_append, List.length_nil]; omega) hx4.size) ?_)
        rintro _ w5 ⟨rfl, hb5, hx5⟩
        have hx5 : Ext w w5 := Below.trans (B := w.heap.size) hx4 hx5
        try (first | refine gl tb ?_ | refine gg tb ?_ | refine ll tb ?_ | refine lg tb ?_); repeat ((first | refine G.condT rfl ?_ | refine G.condF rfl ?_); try (first | refine gl tb ?_ | refine gg tb ?_ | refine ll tb ?_ | refine lg tb ?_))
        refine GL.cons (Step.arith rfl (Op1.of rfl (by first | exact fun _ => rfl | exact fun h => h | exact fun h => bL h | exact fun h => bL (bL h) | exact fun h => bL (bL (bL h)))) (Op1.of rfl (by first | exact fun _ => rfl | exact fun h => h | exact fun h => bL h | exact fun h => bL (bL h) | exact fun h => bL (bL (bL h)))) (wrap_i64 (by omega) (by omega)) rfl ?_)
        try (first | refine gl tb ?_ | refine gg tb ?_ | refine ll tb ?_ | refine lg tb ?_); repeat ((first | refine G.condT rfl ?_ | refine G.condF rfl ?_); try (first | refine gl tb ?_ | refine gg tb ?_ | refine ll tb ?_ | refine lg tb ?_))
        exact G.lp (k + 1) (by repeat (first | exact Sub.nil _ | refine Sub.cons rfl ?_)) ⟨hx5, by omega, by rw [hes, he]; simpa using hb5⟩ (by omega)
      · have hc2 := hc
        try (first | refine gl tb ?_ | refine gg tb ?_ | refine ll tb ?_ | refine lg tb ?_); repeat ((first | refine G.condT rfl ?_ | refine G.condF rfl ?_); try (first | refine gl tb ?_ | refine gg tb ?_ | refine ll tb ?_ | refine lg tb ?_))
        first | refine G.condD rfl (fun hc => ?_) (fun hc => ?_) | refine G.condN rfl (fun hc => ?_) (fun hc => ?_) | refine G.cond rfl (fun hc => ?_) (fun hc => ?_)
        · try (first | refine gl tb ?_ | refine gg tb ?_ | refine ll tb ?_ | refine lg tb ?_); repeat ((first | refine G.condT rfl ?_ | refine G.condF rfl ?_); try (first | refine gl tb ?_ | refine gg tb ?_ | refine ll tb ?_ | refine lg tb ?_))
          have he : escB c = [92, 110] := by unfold escB; rw [if_neg (by omega)]; rw [if_pos hc]
          refine GL.cons (Step.callF rfl rfl rfl c84 rfl (wstr_ok w.heap.size w.heap.size _ [92, 110] w3 hb3 (by simp only [List.length_cons, List.length_nil]; omega) hx3.size) ?_)
          rintro _ w4 ⟨hb4, hx4⟩
          have hx4 : Ext w w4 := Below.trans (B := w.heap.size) hx3 hx4
          try (first | refine gl tb ?_ | refine gg tb ?_ | refine ll tb ?_ | refine lg tb ?_); repeat ((first | refine G.condT rfl ?_ | refine G.condF rfl ?_); try (first | refine gl tb ?_ | refine gg tb ?_ | refine ll tb ?_ | refine lg tb ?_))
          refine GL.cons (Step.arith rfl (Op1.of rfl (by first | exact fun _ => rfl | exact fun h => h | exact fun h => bL h | exact fun h => bL (bL h) | exact fun h => bL (bL (bL h)))) (Op1.of rfl (by first | exact fun _ => rfl | exact fun h => h | exact fun h => bL h | exact fun h => bL (bL h) | exact fun h => bL (bL (bL h)))) (wrap_i64 (by omega) (by omega)) rfl ?_)
          try (first | refine gl tb ?_ | refine gg tb ?_ | refine ll tb ?_ | refine lg tb ?_); repeat ((first | refine G.condT rfl ?_ | refine G.condF rfl ?_); try (first | refine gl tb ?_ | refine gg tb ?_ | refine ll tb ?_ | refine lg tb ?_))
          exact G.lp (k + 1) (by repeat (first | exact Sub.nil _ | refine Sub.cons rfl ?_)) ⟨hx4, by omega, by rw [hes, he]; simpa using hb4⟩ (by omega)
        · try (first | refine gl tb ?_ | refine gg tb ?_ | refine ll tb ?_ | refine lg tb ?_); repeat ((first | refine G.condT rfl ?_ | refine G.condF rfl ?_); try (first | refine gl tb ?_ | refine gg tb ?_ | refine ll tb ?_ | refine lg tb ?_))
          have he : escB c = [c] := by unfold escB; rw [if_neg (by omega)]; rw [if_neg hc]
          refine GL.cons (Step.callF rfl rfl rfl c83 rfl (wbyte_ok w.heap.size w.heap.size _ c w3 hb3 (by simp only [List.length_cons]; omega) hx3.size) ?_)
          rintro _ w4 ⟨rfl, hb4, hx4⟩
          have hx4 : Ext w w4 := Below.trans (B := w.heap.size) hx3 hx4
          try (first | refine gl tb ?_ | refine gg tb ?_ | refine ll tb ?_ | refine lg tb ?_); repeat ((first | refine G.condT rfl ?_ | refine G.condF rfl ?_); try (first | refine gl tb ?_ | refine gg tb ?_ | refine ll tb ?_ | refine lg tb ?_))
          refine GL.cons (Step.arith rfl (Op1.of rfl (by first | exact fun _ => rfl | exact fun h => h | exact fun h => bL h | exact fun h => bL (bL h) | exact fun h => bL (bL (bL h)))) (Op1.of rfl (by first | exact fun _ => rfl | exact fun h => h | exact fun h => bL h | exact fun h => bL (bL h) | exact fun h => bL (bL (bL h)))) (wrap_i64 (by omega) (by omega)) rfl ?_)
          try (first | refine gl tb ?_ | refine gg tb ?_ | refine ll tb ?_ | refine lg tb ?_); repeat ((first | refine G.condT rfl ?_ | refine G.condF rfl ?_); try (first | refine gl tb ?_ | refine gg tb ?_ | refine ll tb ?_ | refine lg tb ?_))
          exact G.lp (k + 1) (by repeat (first | exact Sub.nil _ | refine Sub.cons rfl ?_)) ⟨hx4, by omega, by rw [hes, he]; simpa using hb4⟩ (by omega)
  · obtain rfl : k = s.length := by omega
    rw [List.take_length] at hb3 hel
    try (first | refine gl tb ?_ | refine gg tb ?_ | refine ll tb ?_ | refine lg tb ?_); repeat ((first | refine G.condT rfl ?_ | refine G.condF rfl ?_); try (first | refine gl tb ?_ | refine gg tb ?_ | refine ll tb ?_ | refine lg tb ?_))
    refine GL.cons (Step.callF rfl rfl rfl c83 rfl (wbyte_ok w.heap.size w.heap.size _ 34 w3 hb3 (by simp only [List.length_cons]; omega) hx3.size) ?_)
    rintro _ w4 ⟨rfl, hb4, hx4⟩
    have hx4 : Ext w w4 := Below.trans (B := w.heap.size) hx3 hx4
    try (first | refine gl tb ?_ | refine gg tb ?_ | refine ll tb ?_ | refine lg tb ?_); repeat ((first | refine G.condT rfl ?_ | refine G.condF rfl ?_); try (first | refine gl tb ?_ | refine gg tb ?_ | refine ll tb ?_ | refine lg tb ?_))
    refine GL.cons (Step.callF rfl rfl rfl c85 rfl (bstr_ok w.heap.size w.heap.size _ w4 hb4 hx4.size) ?_)
    rintro _ w5 ⟨rfl, hx5⟩
    have hx5 : Ext w w5 := Below.trans (B := w.heap.size) hx4 hx5
    try (first | refine gl tb ?_ | refine gg tb ?_ | refine ll tb ?_ | refine lg tb ?_); repeat ((first | refine G.condT rfl ?_ | refine G.condF rfl ?_); try (first | refine gl tb ?_ | refine gg tb ?_ | refine ll tb ?_ | refine lg tb ?_))
    refine G.ret1 rfl rfl rfl rfl ?_
    exact ⟨rfl, hx5⟩
end Go.Proofs.YtfffblopkaandaaDoor
open Go Go.Vg Go.RowKit Go.Proofs Go.Proofs.YtfffblopkaandaaDoor
namespace Go.Proofs.YtfffblopkaandaaDoor
set_option linter.unusedSimpArgs false

def partL (x : Lab) : List UInt8 := x.1 ++ [61] ++ quoteL x.2
def restL (ls : List Lab) : List (List UInt8) := (ls.filter fun x => !decide (x.1 = nameS)).map partL
def joinL (ss : List (List UInt8)) : List UInt8 := Lib.join ss [44]
def textL (ls : List Lab) : List UInt8 := if (!decide (getL ls nameS = []) && decide (((restL ls).length : Int) = 0)) = true then getL ls nameS else getL ls nameS ++ [123] ++ joinL (restL ls) ++ [125]
abbrev SO (w : World) (B : Nat) (v : Value) (ss : List (List UInt8)) : Prop := Owns w B v 9 1 (ss.map fun s => [S s])
theorem Owns1.one {w : World} {B : Nat} {v : Value} {et k : Nat} {xs : List (List Value)} (h : Owns w B v et k xs) : ∀ c ∈ [v], c.oneCell' = true := by
  intro c hc
  simp only [List.mem_cons, List.not_mem_nil, or_false] at hc
  subst hc
  rcases h.1.2 with ⟨rfl, _⟩ | ⟨g, cap, cur, rfl, _⟩ <;> rfl
theorem lens_le {m : Nat} : ∀ {ss : List (List UInt8)}, (∀ s ∈ ss, s.length ≤ m) → Lib.lens ss ≤ m * ss.length
  | [], _ => by simp [Lib.lens]
  | a :: r, h => by
    have h1 := h a (by simp)
    have h2 := lens_le (m := m) (ss := r) (fun s hs => h s (by simp [hs]))
    have : Lib.lens (a :: r) = a.length + Lib.lens r := by simp [Lib.lens]
    rw [this, List.length_cons, Nat.mul_succ]; omega
theorem joinL_len {m : Nat} {ss : List (List UInt8)} (h : ∀ s ∈ ss, s.length ≤ m) : (joinL ss).length ≤ (m + 1) * ss.length := by
  cases ss with
  | nil => simp [joinL, Lib.join_nil]
  | cons a r =>
    have h1 := Lib.join_length a r [44]
    have h2 := lens_le h
    unfold joinL
    rw [h1, Nat.succ_mul]
    simp only [List.length_cons, List.length_nil] at h2 ⊢; omega
theorem join_ok (s : Value) (ss : List (List UInt8)) (B : Nat) (w : World) (h : SO w B s ss) (hl : (joinL ss).length ≤ 140737488355328) :
    Ret Tryd.prog 71 ⟨[s, S [44]]⟩ w fun r w' => r = S (joinL ss) ∧ Ext w w' := by
  have hlen := h.2.2
  rw [List.length_map] at hlen
  have hfl : ∀ (j : Nat) (x : List UInt8), ss[j]? = some x → (ss.map fun s => [S s]).flatten[j]? = some (S x) := by
    intro j x hj
    have := flatten_get (k := 1) (ss.map fun s => [S s]) h.2.1 j [S x] (by simp [hj]) 0 (S x) rfl
    simpa using this
  rcases h.1.2 with ⟨rfl, hn⟩ | ⟨g, cap, cur, rfl, hB, hg, hc, hm, hs, ht⟩
  · have : ss = [] := by simpa using hn
    subst this
    refine Calls.mono (Any.strings_Join_none Tryd.lays156 Tryd.Builder_Extra_156 none 0 ⟨⟨[44]⟩⟩ w) ?_
    rintro e w' ⟨he, rfl⟩
    exact ⟨_, he, rfl, Ext.refl _⟩
  · rw [List.length_map] at hc ht ⊢
    have hmap : ((ss.map fun s => (⟨⟨s⟩⟩ : ByteArray)).map (·.data.toList)) = ss := by simp [Function.comp_def]
    have key := Any.strings_Join Tryd.lays156 Tryd.Builder_Extra_156 g 0 cap (ss.map fun s => (⟨⟨s⟩⟩ : ByteArray)) ⟨⟨[44]⟩⟩ w ?_ (Array.getElem?_eq_some_iff.1 hg).1 (by simpa using hlen) (by simpa using hc) (by rw [hmap]; exact hl)
    · rw [hmap, List.length_map] at key
      exact Calls.mono key fun e w' ⟨he, hb⟩ => ⟨_, he, rfl, hb⟩
    · intro j x hx
      simp only [List.getElem?_map, Option.map_eq_some_iff] at hx
      obtain ⟨y, hy, rfl⟩ := hx
      have h1 := hfl j y hy
      rw [← ht] at h1
      have h2 : j < ss.length * 1 := by have := (List.getElem?_eq_some_iff.1 hy).1; omega
      rw [List.getElem?_take_of_lt h2] at h1
      rw [Nat.zero_add, cell_of_row w g j cur _ (0, 0) hg]
      have h3 : cur[j]? = some (S y) := by simpa using h1
      exact h3
theorem restL_snoc (ls : List Lab) (x : Lab) : restL (ls ++ [x]) = if x.1 = nameS then restL ls else restL ls ++ [partL x] := by
  by_cases h : x.1 = nameS <;> simp [restL, h]

theorem text_ok (v : Value) (ls : List Lab) (w : World) (hv : Labs w v ls) (hn : ls.length ≤ 1000) (hz : ∀ x ∈ ls, x.1.length ≤ 1000000 ∧ x.2.length ≤ 1000000) :
    Ret Tryd.prog 41 ⟨[v]⟩ w fun r w' => r = S (textL ls) ∧ Ext w w' := by
  refine ret_of_GM Tryd.func41 rfl Tryd.ntmps41 rfl ?_
  simp only [argEnv]
  try (first | refine gl tb ?_ | refine gg tb ?_ | refine ll tb ?_ | refine lg tb ?_); repeat ((first | refine G.condT rfl ?_ | refine G.condF rfl ?_); try (first | refine gl tb ?_ | refine gg tb ?_ | refine ll tb ?_ | refine lg tb ?_))
  refine GL.cons (Step.callX rfl rfl (by repeat (first | exact OpL.nil | refine OpL.cons (Op1.of rfl (by first | exact fun _ => rfl | exact fun h => h | exact fun h => bL h | exact fun h => bL (bL h) | exact fun h => bL (bL (bL h)))) ?_)) c50 rfl (fun hc => get_ok v ls nameS w hv) ?_)
  intro w1 hx1
  try (first | refine gl tb ?_ | refine gg tb ?_ | refine ll tb ?_ | refine lg tb ?_); repeat ((first | refine G.condT rfl ?_ | refine G.condF rfl ?_); try (first | refine gl tb ?_ | refine gg tb ?_ | refine ll tb ?_ | refine lg tb ?_))
  refine GL.cons (Step.alloc tb rfl rfl rfl rfl ?_)
  intro w2 hb2 hs2 hx2
  have hx02 := hx1.trans hx2
  try (first | refine gl tb ?_ | refine gg tb ?_ | refine ll tb ?_ | refine lg tb ?_); repeat ((first | refine G.condT rfl ?_ | refine G.condF rfl ?_); try (first | refine gl tb ?_ | refine gg tb ?_ | refine ll tb ?_ | refine lg tb ?_))
  refine GL.cons (Step.callF rfl rfl rfl c13 rfl (all_ok v ls w2 (hv.to hx02)) ?_)
  rintro r w3 ⟨b, rfl, hb, hbx, hx3⟩
  have hb3 := hb2.to hx3
  have hx03 : Ext w w3 := hx02.trans hx3
  have hbne : w1.heap.size < b := by omega
  obtain ⟨B, hB⟩ : ∃ B, B = w3.heap.size := ⟨_, rfl⟩
  have hB1 : w1.heap.size < B := by have := hx3.size; omega
  have hB2 : b < B := by rw [hB]; exact hbx.lt
  have hB3 : w.heap.size ≤ B := by rw [hB]; exact hx03.size
  try (first | refine gl tb ?_ | refine gg tb ?_ | refine ll tb ?_ | refine lg tb ?_); repeat ((first | refine G.condT rfl ?_ | refine G.condF rfl ?_); try (first | refine gl tb ?_ | refine gg tb ?_ | refine ll tb ?_ | refine lg tb ?_))
  refine G.rangeFunc rfl rfl c53 (all1_ok v ls b) rfl rfl (by intro x hx; obtain ⟨y, _, rfl⟩ := List.mem_map.1 hx; rfl)
    (fun i W => Ext w W ∧ Bx W b [v] ∧ B ≤ W.heap.size ∧ ∃ s, Bx W w1.heap.size [s] ∧ SO W B s (restL (ls.take i))) (fun _ _ => False) ?_ ?_ ?_ ?_ ?_ ?_ ?_
  · rintro l hl i W W' ⟨h1, h2, h3, s, h4, h5⟩ hk
    exact ⟨Below.kept h1 hk (by have := hx03.size; omega) h1.size, h2.kept hk, by have := hk.2.size; omega, s, h4.kept hk, h5.kept hk⟩
  · exact fun _ _ _ _ _ h _ => h
  · rintro i W ⟨h1, h2, _⟩
    exact ⟨h2.cells.one, hv.to h1⟩
  · exact fun w' h => ⟨hx03.trans h, hbx.to h, by rw [hB]; exact h.size, _, hb3.to h, Owns.nil _ _ _ _⟩
  · rintro l r rc i x W hl hlr hxi ⟨h1, h2, h3, s, h4, h5⟩ hLp
    simp only [List.getElem?_map, Option.map_eq_some_iff] at hxi
    obtain ⟨y, hy, rfl⟩ := hxi
    try (first | refine gl tb ?_ | refine gg tb ?_ | refine ll tb ?_ | refine lg tb ?_); repeat ((first | refine G.condT rfl ?_ | refine G.condF rfl ?_); try (first | refine gl tb ?_ | refine gg tb ?_ | refine ll tb ?_ | refine lg tb ?_))
    refine G.beg rfl rfl rfl hLp hlr ?_
    intro W2 hk hLp2 hsz
    have h1' : Ext w W2 := Below.kept h1 hk (by omega) h1.size
    have h2' := h2.kept hk
    have h4' := h4.kept hk
    have h5' := h5.kept hk
    have hBW : B ≤ W2.heap.size := by omega
    clear h1 h2 h4 h5 hk hLp
    have hmem : y ∈ ls := List.mem_of_getElem? hy
    have hlt : i < ls.length := (List.getElem?_eq_some_iff.1 hy).1
    have htk : ls.take (i + 1) = ls.take i ++ [y] := by
      rw [List.take_succ_eq_append_getElem hlt, (List.getElem?_eq_some_iff.1 hy).2]
    have hrs : restL (ls.take (i + 1)) = if y.1 = nameS then restL (ls.take i) else restL (ls.take i) ++ [partL y] := by rw [htk, restL_snoc]
    have hrl : (restL (ls.take i)).length ≤ 1000 := by
      have h1 := List.length_filter_le (fun x : Lab => !decide (x.1 = nameS)) (ls.take i)
      rw [List.length_take] at h1
      simp only [restL, List.length_map]; omega
    try (first | refine gl tb ?_ | refine gg tb ?_ | refine ll tb ?_ | refine lg tb ?_); repeat ((first | refine G.condT rfl ?_ | refine G.condF rfl ?_); try (first | refine gl tb ?_ | refine gg tb ?_ | refine ll tb ?_ | refine lg tb ?_))
    first | refine G.condD rfl (fun hc => ?_) (fun hc => ?_) | refine G.condN rfl (fun hc => ?_) (fun hc => ?_) | refine G.cond rfl (fun hc => ?_) (fun hc => ?_)
    · have hne : ¬ y.1 = nameS := by simpa [nameS] using hc
      rw [if_neg hne] at hrs
      try (first | refine gl tb ?_ | refine gg tb ?_ | refine ll tb ?_ | refine lg tb ?_); repeat ((first | refine G.condT rfl ?_ | refine G.condF rfl ?_); try (first | refine gl tb ?_ | refine gg tb ?_ | refine ll tb ?_ | refine lg tb ?_))
      refine G.regionG (fun _ => True) mixed trivial ?_
      have h1 : Ext w W2.drew := h1'.drew'
      have h2 : Bx W2.drew b [v] := h2'
      have h4 : Bx W2.drew w1.heap.size [s] := h4'
      have h5 := h5'.to (Ext.drew W2)
      have hBW : B ≤ W2.drew.heap.size := by simpa using hBW
      have hLp := hLp2.to (Ext.drew W2)
      generalize W2.drew = W3 at h1 h2 h4 h5 hBW hLp ⊢
      clear h1' h2' h4' h5' hLp2 hsz
      have hq := quoted_ok y.2
      have hyz := hz y hmem
      have hel := escL_len y.2
      refine GD.join [0, 1, 2, 3, 4, 5, 6] (fun x : Value => [(4, none, ptr w1.heap.size), (15, none, s), (21, none, x)]) (fun x w' => Ext W3 w' ∧ SO w' W3.heap.size x [partL y]) ?_ fun meet => ?_
      · rintro s21 W4 ⟨hx4, ho21⟩
        simp only at ho21 ⊢
        refine GD.steps ([(7, false), (8, false)]) (by kernel_rfl) (by kernel_rfl) rfl ?_
        refine GM.eff (Step.append tb rfl (Op1.of rfl (by first | exact fun _ => rfl | exact fun h => h | exact fun h => bL h | exact fun h => bL (bL h) | exact fun h => bL (bL (bL h)))) (Op1.of rfl (by first | exact fun _ => rfl | exact fun h => h | exact fun h => bL h | exact fun h => bL (bL h) | exact fun h => bL (bL (bL h)))) rfl rfl rfl (by rfl) (h5.to hx4) (ho21.sli) (by simp [S, Value.oneCell']) (by simp only [List.length_map, List.length_append, List.length_cons, List.length_nil, List.length_take, List.length_drop]; omega) (by simp only [List.length_map, List.length_append, List.length_cons, List.length_nil, List.length_take, List.length_drop]; omega) (by have := hx4.size; omega) rfl ?_)
        intro s22 W5 ho22 hg5
        refine ⟨trivial, ?_⟩
        have h45 := (h4.to hx4).grew hg5 ((h5.to hx4).ne hB1)
        refine GM.eff (Step.store0 tb rfl (Op1.of rfl (by first | exact fun _ => rfl | exact fun h => h | exact fun h => bL h | exact fun h => bL (bL h) | exact fun h => bL (bL (bL h)))) (Op1.of rfl (by first | exact fun _ => rfl | exact fun h => h | exact fun h => bL h | exact fun h => bL (bL h) | exact fun h => bL (bL (bL h)))) rfl (ho22.cells) rfl (Owns1.one ho22) h45 rfl ?_)
        intro W6 hb6 hw6
        refine ⟨trivial, ?_⟩
        refine GM.nil ?_
        refine GD.done (by kernel_rfl) ?_
        have hb45 : Below w.heap.size W4 W5 := (hg5.below _ (Below.refl _ _)).mono hB3
        have hx5 : Ext w W5 := Below.trans (B := w.heap.size) (h1.trans hx4) hb45
        have hx6 : Ext w W6 := Below.wr hx5 hw6 hx1.size
        have hL6 := ((h5.to hx4).lp (hLp.to hx4) hg5).wr h45 hw6
        have h26 := ((h2.to hx4).grew hg5 ((h5.to hx4).ne hB2)).wr hw6 (by omega)
        have hs6 : B ≤ W6.heap.size := by have := hx4.size; have := hg5.size; have := hw6.size; omega
        exact G.nil fun t _ => ⟨hL6, hx6, h26, hs6, s22, hb6, by rw [hrs]; unfold SO; rw [List.map_append]; exact ho22.wr hw6 hB1⟩
      · refine GD.steps ([(1, true), (2, true), (3, true)]) (by kernel_rfl) (by kernel_rfl) rfl ?_
        repeat (first
    | refine GM.nil ?_
    | refine GM.read (fun w' hS => Step.move rfl (Op1.of rfl (by first | exact fun _ => rfl | exact fun h => h | exact fun h => bL h | exact fun h => bL (bL h) | exact fun h => bL (bL (bL h)))) rfl ⟨rfl, rfl⟩) rfl rfl ?_
    | refine GM.read (fun w' hS => Step.assign rfl (Op1.of rfl (by first | exact fun _ => rfl | exact fun h => h | exact fun h => bL h | exact fun h => bL (bL h) | exact fun h => bL (bL (bL h)))) rfl ⟨rfl, rfl⟩) rfl rfl ?_
    | refine GM.read (fun w' hS => Step.bin rfl (Op1.of rfl (by first | exact fun _ => rfl | exact fun h => h | exact fun h => bL h | exact fun h => bL (bL h) | exact fun h => bL (bL (bL h)))) (Op1.of rfl (by first | exact fun _ => rfl | exact fun h => h | exact fun h => bL h | exact fun h => bL (bL h) | exact fun h => bL (bL (bL h)))) rfl rfl ⟨rfl, rfl⟩) rfl rfl ?_
    | refine GM.read (fun w' hS => Step.and rfl (Op1.of rfl (by first | exact fun _ => rfl | exact fun h => h | exact fun h => bL h | exact fun h => bL (bL h) | exact fun h => bL (bL (bL h)))) rfl (by first | exact fun _ _ => rfl | exact fun _ h => h | exact fun _ h => bNot h | exact fun h k => bAnd h k | exact fun h k => bAnd h (bNot k)) rfl ⟨rfl, rfl⟩) rfl rfl ?_
    | refine GM.read (fun w' hS => Step.or rfl (Op1.of rfl (by first | exact fun _ => rfl | exact fun h => h | exact fun h => bL h | exact fun h => bL (bL h) | exact fun h => bL (bL (bL h)))) rfl (by first | exact fun _ _ => rfl | exact fun _ h => h | exact fun _ h => bNot h | exact fun h k => bAnd h k | exact fun h k => bAnd h (bNot k)) rfl ⟨rfl, rfl⟩) rfl rfl ?_
    | refine GM.read (fun w' hS => Step.lenS tb rfl (Op1.of rfl (by first | exact fun _ => rfl | exact fun h => h | exact fun h => bL h | exact fun h => bL (bL h) | exact fun h => bL (bL (bL h)))) rfl rfl ⟨rfl, rfl⟩) rfl rfl ?_
    | refine GM.read (fun w' hS => Step.un rfl (Op1.of rfl (by first | exact fun _ => rfl | exact fun h => h | exact fun h => bL h | exact fun h => bL (bL h) | exact fun h => bL (bL (bL h)))) rfl rfl ⟨rfl, rfl⟩) rfl rfl ?_
    | refine GM.read (fun w' hS => Step.extract rfl (Op1.of rfl (by first | exact fun _ => rfl | exact fun h => h | exact fun h => bL h | exact fun h => bL (bL h) | exact fun h => bL (bL (bL h)))) rfl rfl ⟨rfl, rfl⟩) rfl rfl ?_)
        refine GM.read (fun w' hS => Step.cat rfl (Op1.of rfl (by first | exact fun _ => rfl | exact fun h => h | exact fun h => bL h | exact fun h => bL (bL h) | exact fun h => bL (bL (bL h)))) (Op1.of rfl (by first | exact fun _ => rfl | exact fun h => h | exact fun h => bL h | exact fun h => bL (bL h) | exact fun h => bL (bL (bL h)))) (fun _ => by simp only [List.length_cons, List.length_nil]; omega) rfl ⟨rfl, rfl⟩) rfl rfl ?_
        repeat (first
    | refine GM.nil ?_
    | refine GM.read (fun w' hS => Step.move rfl (Op1.of rfl (by first | exact fun _ => rfl | exact fun h => h | exact fun h => bL h | exact fun h => bL (bL h) | exact fun h => bL (bL (bL h)))) rfl ⟨rfl, rfl⟩) rfl rfl ?_
    | refine GM.read (fun w' hS => Step.assign rfl (Op1.of rfl (by first | exact fun _ => rfl | exact fun h => h | exact fun h => bL h | exact fun h => bL (bL h) | exact fun h => bL (bL (bL h)))) rfl ⟨rfl, rfl⟩) rfl rfl ?_
    | refine GM.read (fun w' hS => Step.bin rfl (Op1.of rfl (by first | exact fun _ => rfl | exact fun h => h | exact fun h => bL h | exact fun h => bL (bL h) | exact fun h => bL (bL (bL h)))) (Op1.of rfl (by first | exact fun _ => rfl | exact fun h => h | exact fun h => bL h | exact fun h => bL (bL h) | exact fun h => bL (bL (bL h)))) rfl rfl ⟨rfl, rfl⟩) rfl rfl ?_
    | refine GM.read (fun w' hS => Step.and rfl (Op1.of rfl (by first | exact fun _ => rfl | exact fun h => h | exact fun h => bL h | exact fun h => bL (bL h) | exact fun h => bL (bL (bL h)))) rfl (by first | exact fun _ _ => rfl | exact fun _ h => h | exact fun _ h => bNot h | exact fun h k => bAnd h k | exact fun h k => bAnd h (bNot k)) rfl ⟨rfl, rfl⟩) rfl rfl ?_
    | refine GM.read (fun w' hS => Step.or rfl (Op1.of rfl (by first | exact fun _ => rfl | exact fun h => h | exact fun h => bL h | exact fun h => bL (bL h) | exact fun h => bL (bL (bL h)))) rfl (by first | exact fun _ _ => rfl | exact fun _ h => h | exact fun _ h => bNot h | exact fun h k => bAnd h k | exact fun h k => bAnd h (bNot k)) rfl ⟨rfl, rfl⟩) rfl rfl ?_
    | refine GM.read (fun w' hS => Step.lenS tb rfl (Op1.of rfl (by first | exact fun _ => rfl | exact fun h => h | exact fun h => bL h | exact fun h => bL (bL h) | exact fun h => bL (bL (bL h)))) rfl rfl ⟨rfl, rfl⟩) rfl rfl ?_
    | refine GM.read (fun w' hS => Step.un rfl (Op1.of rfl (by first | exact fun _ => rfl | exact fun h => h | exact fun h => bL h | exact fun h => bL (bL h) | exact fun h => bL (bL (bL h)))) rfl rfl ⟨rfl, rfl⟩) rfl rfl ?_
    | refine GM.read (fun w' hS => Step.extract rfl (Op1.of rfl (by first | exact fun _ => rfl | exact fun h => h | exact fun h => bL h | exact fun h => bL (bL h) | exact fun h => bL (bL (bL h)))) rfl rfl ⟨rfl, rfl⟩) rfl rfl ?_)
        refine GD.two (0) (4) (by kernel_rfl) (by kernel_rfl) rfl rfl ?_ ?_
        · refine (Step.load1 tb rfl (Op1.of rfl (by first | exact fun _ => rfl | exact fun h => h | exact fun h => bL h | exact fun h => bL (bL h) | exact fun h => bL (bL (bL h)))) rfl rfl (fun _ => h4.cells.one) rfl ?_)
          refine ⟨trivial, ?_⟩
          refine GD.steps ([(4, false), (5, true), (6, false)]) (by kernel_rfl) (by kernel_rfl) rfl ?_
          refine GM.eff (Step.callF rfl rfl rfl c70 rfl (hq W3 (by omega)) ?_)
          rintro _ W4 ⟨rfl, hx4⟩
          refine ⟨trivial, ?_⟩
          refine GM.read (fun w' hS => Step.cat rfl (Op1.of rfl (by first | exact fun _ => rfl | exact fun h => h | exact fun h => bL h | exact fun h => bL (bL h) | exact fun h => bL (bL (bL h)))) (Op1.of rfl (by first | exact fun _ => rfl | exact fun h => h | exact fun h => bL h | exact fun h => bL (bL h) | exact fun h => bL (bL (bL h)))) (fun _ => by simp only [quoteL, List.length_append, List.length_cons, List.length_nil]; omega) rfl ⟨rfl, rfl⟩) rfl rfl ?_
          refine GM.eff (Step.buildSlice tb ([[S (partL y)]]) rfl rfl rfl rfl rfl rfl (by rfl) rfl (by rfl) (by rfl) (by rfl) (by simp) rfl ?_)
          intro s21 W5 ho5 hs5 hx5
          refine ⟨trivial, ?_⟩
          refine GM.nil ?_
          exact meet s21 _ _ _ rfl rfl (by repeat (first | exact Sub.nil _ | refine Sub.cons rfl ?_)) ⟨hx4.trans hx5, ho5.mono hx4.size⟩
        · refine (Step.callF rfl rfl rfl c70 rfl (hq W3 (by omega)) ?_)
          rintro _ W4 ⟨rfl, hx4⟩
          refine ⟨trivial, ?_⟩
          have h44 := h4.to hx4
          refine GD.steps ([(5, true)]) (by kernel_rfl) (by kernel_rfl) rfl ?_
          refine GM.read (fun w' hS => Step.cat rfl (Op1.of rfl (by first | exact fun _ => rfl | exact fun h => h | exact fun h => bL h | exact fun h => bL (bL h) | exact fun h => bL (bL (bL h)))) (Op1.of rfl (by first | exact fun _ => rfl | exact fun h => h | exact fun h => bL h | exact fun h => bL (bL h) | exact fun h => bL (bL (bL h)))) (fun _ => by simp only [quoteL, List.length_append, List.length_cons, List.length_nil]; omega) rfl ⟨rfl, rfl⟩) rfl rfl ?_
          refine GM.nil ?_
          refine GD.two (0) (6) (by kernel_rfl) (by kernel_rfl) rfl rfl ?_ ?_
          · refine (Step.load1 tb rfl (Op1.of rfl (by first | exact fun _ => rfl | exact fun h => h | exact fun h => bL h | exact fun h => bL (bL h) | exact fun h => bL (bL (bL h)))) rfl rfl (fun _ => h44.cells.one) rfl ?_)
            refine ⟨trivial, ?_⟩
            refine GD.steps ([(6, false)]) (by kernel_rfl) (by kernel_rfl) rfl ?_
            refine GM.eff (Step.buildSlice tb ([[S (partL y)]]) rfl rfl rfl rfl rfl rfl (by rfl) rfl (by rfl) (by rfl) (by rfl) (by simp) rfl ?_)
            intro s21 W5 ho5 hs5 hx5
            refine ⟨trivial, ?_⟩
            refine GM.nil ?_
            exact meet s21 _ _ _ rfl rfl (by repeat (first | exact Sub.nil _ | refine Sub.cons rfl ?_)) ⟨hx4.trans hx5, ho5.mono hx4.size⟩
          · refine (Step.buildSlice tb ([[S (partL y)]]) rfl rfl rfl rfl rfl rfl (by rfl) rfl (by rfl) (by rfl) (by rfl) (by simp) rfl ?_)
            intro s21 W5 ho5 hs5 hx5
            refine ⟨trivial, ?_⟩
            refine GD.steps ([(0, false)]) (by kernel_rfl) (by kernel_rfl) rfl ?_
            refine GM.eff (Step.load1 tb rfl (Op1.of rfl (by first | exact fun _ => rfl | exact fun h => h | exact fun h => bL h | exact fun h => bL (bL h) | exact fun h => bL (bL (bL h)))) rfl rfl (fun _ => (h44.to hx5).cells.one) rfl ?_)
            refine ⟨trivial, ?_⟩
            refine GM.nil ?_
            exact meet s21 _ _ _ rfl rfl (by repeat (first | exact Sub.nil _ | refine Sub.cons rfl ?_)) ⟨hx4.trans hx5, ho5.mono hx4.size⟩
    · have hne : y.1 = nameS := by simpa [nameS] using hc
      rw [if_pos hne] at hrs
      try (first | refine gl tb ?_ | refine gg tb ?_ | refine ll tb ?_ | refine lg tb ?_); repeat ((first | refine G.condT rfl ?_ | refine G.condF rfl ?_); try (first | refine gl tb ?_ | refine gg tb ?_ | refine ll tb ?_ | refine lg tb ?_))
      exact G.nil fun t _ => ⟨hLp2, h1', h2', hBW, s, h4', by rw [hrs]; exact h5'⟩
  · rintro r W hr ⟨h1, h2, h3, s, h4, h5⟩ hD
    rw [List.length_map, List.take_length] at h5
    have hrl : (restL ls).length ≤ 1000 := by
      have h1 := List.length_filter_le (fun x : Lab => !decide (x.1 = nameS)) ls
      simp only [restL, List.length_map]; omega
    have hpl : ∀ p ∈ restL ls, p.length ≤ 3000003 := by
      intro p hp
      obtain ⟨x, hx, rfl⟩ := List.mem_map.1 hp
      have h1 := hz x (List.mem_filter.1 hx).1
      have h2 := escL_len x.2
      simp only [partL, quoteL, List.length_append, List.length_cons, List.length_nil]; omega
    have hjl := joinL_len hpl
    have hjb : (joinL (restL ls)).length ≤ 3000004000 := Nat.le_trans hjl (Nat.mul_le_mul_left _ hrl)
    have hgl : ∀ l : List Lab, (∀ x ∈ l, x.1.length ≤ 1000000 ∧ x.2.length ≤ 1000000) → (getL l nameS).length ≤ 1000000 := by
      intro l
      induction l with
      | nil => intro _; simp [getL]
      | cons a r ih =>
        intro h
        simp only [getL]
        split
        · exact (h a (by simp)).2
        · exact ih fun x hx => h x (by simp [hx])
    have hgn := hgl ls hz
    have hrw : w.heap.size ≤ r := by omega
    try (first | refine gl tb ?_ | refine gg tb ?_ | refine ll tb ?_ | refine lg tb ?_); repeat ((first | refine G.condT rfl ?_ | refine G.condF rfl ?_); try (first | refine gl tb ?_ | refine gg tb ?_ | refine ll tb ?_ | refine lg tb ?_))
    refine GL.cons (Step.load1 tb rfl (Op1.of rfl (by first | exact fun _ => rfl | exact fun h => h | exact fun h => bL h | exact fun h => bL (bL h) | exact fun h => bL (bL (bL h)))) rfl rfl (fun _ => h4.cells.one) rfl ?_)
    refine GL.cons (Step.lenV tb rfl (Op1.of rfl (by first | exact fun _ => rfl | exact fun h => h | exact fun h => bL h | exact fun h => bL (bL h) | exact fun h => bL (bL (bL h)))) rfl (fun _ => ⟨_, h5.sli⟩) rfl ?_)
    simp only [List.length_map]
    try (first | refine gl tb ?_ | refine gg tb ?_ | refine ll tb ?_ | refine lg tb ?_); repeat ((first | refine G.condT rfl ?_ | refine G.condF rfl ?_); try (first | refine gl tb ?_ | refine gg tb ?_ | refine ll tb ?_ | refine lg tb ?_))
    first | refine G.condD rfl (fun hc => ?_) (fun hc => ?_) | refine G.condN rfl (fun hc => ?_) (fun hc => ?_) | refine G.cond rfl (fun hc => ?_) (fun hc => ?_)
    · try (first | refine gl tb ?_ | refine gg tb ?_ | refine ll tb ?_ | refine lg tb ?_); repeat ((first | refine G.condT rfl ?_ | refine G.condF rfl ?_); try (first | refine gl tb ?_ | refine gg tb ?_ | refine ll tb ?_ | refine lg tb ?_))
      refine G.retM rfl rfl hD fun t ht => ⟨_, res1 ht rfl rfl _, ?_, h1.wr (outW_wr r _) hrw⟩
      rw [textL, if_pos (by simpa [nameS] using hc)]
    · have htx : textL ls = getL ls nameS ++ [123] ++ joinL (restL ls) ++ [125] := by
        unfold textL; rw [if_neg (by rw [Bool.not_eq_true]; exact hc)]
      rw [htx]
      try (first | refine gl tb ?_ | refine gg tb ?_ | refine ll tb ?_ | refine lg tb ?_); repeat ((first | refine G.condT rfl ?_ | refine G.condF rfl ?_); try (first | refine gl tb ?_ | refine gg tb ?_ | refine ll tb ?_ | refine lg tb ?_))
      refine GL.cons (Step.cat rfl (Op1.of rfl (by first | exact fun _ => rfl | exact fun h => h | exact fun h => bL h | exact fun h => bL (bL h) | exact fun h => bL (bL (bL h)))) (Op1.of rfl (by first | exact fun _ => rfl | exact fun h => h | exact fun h => bL h | exact fun h => bL (bL h) | exact fun h => bL (bL (bL h)))) (fun _ => by simp only [List.length_cons, List.length_nil]; omega) rfl ?_)
      try (first | refine gl tb ?_ | refine gg tb ?_ | refine ll tb ?_ | refine lg tb ?_); repeat ((first | refine G.condT rfl ?_ | refine G.condF rfl ?_); try (first | refine gl tb ?_ | refine gg tb ?_ | refine ll tb ?_ | refine lg tb ?_))
      refine GL.cons (Step.load1 tb rfl (Op1.of rfl (by first | exact fun _ => rfl | exact fun h => h | exact fun h => bL h | exact fun h => bL (bL h) | exact fun h => bL (bL (bL h)))) rfl rfl (fun _ => h4.cells.one) rfl ?_)
      try (first | refine gl tb ?_ | refine gg tb ?_ | refine ll tb ?_ | refine lg tb ?_); repeat ((first | refine G.condT rfl ?_ | refine G.condF rfl ?_); try (first | refine gl tb ?_ | refine gg tb ?_ | refine ll tb ?_ | refine lg tb ?_))
      refine GL.cons (Step.callF rfl rfl rfl c71 rfl (join_ok s (restL ls) B W h5 (by omega)) ?_)
      rintro _ W2 ⟨rfl, hx2⟩
      try (first | refine gl tb ?_ | refine gg tb ?_ | refine ll tb ?_ | refine lg tb ?_); repeat ((first | refine G.condT rfl ?_ | refine G.condF rfl ?_); try (first | refine gl tb ?_ | refine gg tb ?_ | refine ll tb ?_ | refine lg tb ?_))
      refine GL.cons (Step.cat rfl (Op1.of rfl (by first | exact fun _ => rfl | exact fun h => h | exact fun h => bL h | exact fun h => bL (bL h) | exact fun h => bL (bL (bL h)))) (Op1.of rfl (by first | exact fun _ => rfl | exact fun h => h | exact fun h => bL h | exact fun h => bL (bL h) | exact fun h => bL (bL (bL h)))) (fun _ => by simp only [List.length_append, List.length_cons, List.length_nil]; omega) rfl ?_)
      try (first | refine gl tb ?_ | refine gg tb ?_ | refine ll tb ?_ | refine lg tb ?_); repeat ((first | refine G.condT rfl ?_ | refine G.condF rfl ?_); try (first | refine gl tb ?_ | refine gg tb ?_ | refine ll tb ?_ | refine lg tb ?_))
      refine GL.cons (Step.cat rfl (Op1.of rfl (by first | exact fun _ => rfl | exact fun h => h | exact fun h => bL h | exact fun h => bL (bL h) | exact fun h => bL (bL (bL h)))) (Op1.of rfl (by first | exact fun _ => rfl | exact fun h => h | exact fun h => bL h | exact fun h => bL (bL h) | exact fun h => bL (bL (bL h)))) (fun _ => by simp only [List.length_append, List.length_cons, List.length_nil]; omega) rfl ?_)
      try (first | refine gl tb ?_ | refine gg tb ?_ | refine ll tb ?_ | refine lg tb ?_); repeat ((first | refine G.condT rfl ?_ | refine G.condF rfl ?_); try (first | refine gl tb ?_ | refine gg tb ?_ | refine ll tb ?_ | refine lg tb ?_))
      exact G.retM rfl rfl (hD.to hx2) fun t ht => ⟨_, res1 ht rfl rfl _, rfl, (h1.trans hx2).wr (outW_wr r _) hrw⟩
  · rintro r c W hr h hD
    exact h.elim
end Go.Proofs.YtfffblopkaandaaDoor
open Go Go.Vg Go.RowKit Go.Proofs Go.Proofs.YtfffblopkaandaaDoor
namespace Go.Proofs.YtfffblopkaandaaDoor
set_option linter.unusedSimpArgs false

def wl : List Lab := [([98], [49]), ([97], [50]), ([99], [])]
def wd : List Lab := [([97], [50]), ([98], [49])]
theorem wl_ok : wl.all okB = true := by decide +kernel
theorem wl_sz : ∀ x ∈ wl, LabSz x := by
  intro x hx
  simp only [wl, List.mem_cons, List.not_mem_nil, or_false] at hx
  rcases hx with rfl | rfl | rfl <;> simp [LabSz, Sz]
theorem wl_kept : keptL wl = [([98], [49]), ([97], [50])] := by decide +kernel
theorem wl_new {e : Int} {out : List Lab} (h : newS wl e out) : e = 0 ∧ out = wd := by
  unfold newS at h
  rw [if_pos wl_ok, wl_kept] at h
  obtain ⟨d, hp, hs, h⟩ := h
  have hd : d = wd := by
    have hl := hp.length_eq
    match d, hl with
    | [x, y], _ =>
      have hx : x ∈ [(([98], [49]) : Lab), ([97], [50])] := hp.subset (by simp)
      have hy : y ∈ [(([98], [49]) : Lab), ([97], [50])] := hp.subset (by simp)
      have ha : (([97], [50]) : Lab) ∈ [x, y] := hp.symm.subset (by simp)
      have hb : (([98], [49]) : Lab) ∈ [x, y] := hp.symm.subset (by simp)
      simp only [List.mem_cons, List.not_mem_nil, or_false] at hx hy ha hb
      rcases hx with rfl | rfl
      · rcases hy with rfl | rfl
        · rcases ha with h | h <;> exact absurd h (by decide)
        · simp only [sortedL, List.pairwise_cons] at hs
          have := hs.1 _ (List.mem_cons_self ..)
          exact absurd this (by decide)
      · rcases hy with rfl | rfl
        · rfl
        · rcases hb with h | h <;> exact absurd h (by decide)
  subst hd
  rcases h with ⟨⟨i, h1, h2, h3⟩, _⟩ | ⟨_, h⟩
  · have : i = 1 := by simp only [wd, List.length_cons, List.length_nil] at h2; omega
    subst this
    exact absurd h3 (by decide)
  · rw [if_neg (by decide)] at h; exact h
theorem wd_text : textL wd = [123, 97, 61, 34, 50, 34, 44, 98, 61, 34, 49, 34, 125] := by decide +kernel
theorem wd_get : getL wd [98] = [49] := by decide +kernel

theorem wakes_ok (w : World) (hT : Tabs w) : Ret Tryd.prog 15 ⟨[]⟩ w fun r w' => r = .bool true ∧ Ext w w' := by
  refine ret_of_G Tryd.func15 rfl Tryd.ntmps15 rfl ?_
  simp only [argEnv]
  try (first | refine gl tb ?_ | refine gg tb ?_ | refine ll tb ?_ | refine lg tb ?_); repeat ((first | refine G.condT rfl ?_ | refine G.condF rfl ?_); try (first | refine gl tb ?_ | refine gg tb ?_ | refine ll tb ?_ | refine lg tb ?_))
  refine GL.cons (Step.build tb rfl rfl rfl rfl rfl rfl rfl rfl rfl ?_)
  refine GL.cons (Step.build tb rfl rfl rfl rfl rfl rfl rfl rfl rfl ?_)
  refine GL.cons (Step.build tb rfl rfl rfl rfl rfl rfl rfl rfl rfl ?_)
  refine GL.cons (Step.buildSlice tb (wl.map labC) rfl rfl rfl rfl rfl rfl (by rfl) rfl (by rfl) (by rfl) (by rfl) (labLen wl) rfl ?_)
  intro s1 w1 ho1 hs1 hx1
  refine GL.cons (Step.callF rfl rfl rfl c18 rfl (new_ok s1 wl w1 ho1.sli (by decide) wl_sz (hT.to hx1)) ?_)
  rintro _ w2 ⟨s2, e, out, rfl, hnew, ho2, hx2⟩
  obtain ⟨rfl, rfl⟩ := wl_new hnew
  have hx02 := hx1.trans hx2
  have hg0 : (wd.map labC)[0]? = some (labC ([97], [50])) := rfl
  try (first | refine gl tb ?_ | refine gg tb ?_ | refine ll tb ?_ | refine lg tb ?_); repeat ((first | refine G.condT rfl ?_ | refine G.condF rfl ?_); try (first | refine gl tb ?_ | refine gg tb ?_ | refine ll tb ?_ | refine lg tb ?_))
  refine GL.cons (Step.lenV tb rfl (Op1.of rfl (by first | exact fun _ => rfl | exact fun h => h | exact fun h => bL h | exact fun h => bL (bL h) | exact fun h => bL (bL (bL h)))) rfl (fun _ => ⟨_, ho2.sli⟩) rfl ?_)
  try (first | refine gl tb ?_ | refine gg tb ?_ | refine ll tb ?_ | refine lg tb ?_); repeat ((first | refine G.condT rfl ?_ | refine G.condF rfl ?_); try (first | refine gl tb ?_ | refine gg tb ?_ | refine ll tb ?_ | refine lg tb ?_))
  refine GL.cons (Step.indexAddr tb 0 rfl (Op1.of rfl (by first | exact fun _ => rfl | exact fun h => h | exact fun h => bL h | exact fun h => bL (bL h) | exact fun h => bL (bL (bL h)))) (Op1.of rfl (by first | exact fun _ => rfl | exact fun h => h | exact fun h => bL h | exact fun h => bL (bL h) | exact fun h => bL (bL (bL h)))) rfl rfl (fun _ => ⟨_, ho2.sli⟩) (fun _ => ⟨by omega, by simpa using by decide⟩) rfl ?_)
  refine GL.cons (Step.fieldAddr tb rfl (Op1.of rfl (by first | exact fun _ => rfl | exact fun h => h | exact fun h => bL h | exact fun h => bL (bL h) | exact fun h => bL (bL (bL h)))) rfl rfl rfl rfl (fun _ => (ho2.sli.elem hg0).ptr) rfl ?_); refine GL.cons (Step.load1 tb rfl (Op1.of rfl (by first | exact fun _ => rfl | exact fun h => h | exact fun h => bL h | exact fun h => bL (bL h) | exact fun h => bL (bL (bL h)))) rfl rfl (fun _ => (ho2.sli.elem hg0).cell (i := 0) rfl) rfl ?_)
  try (first | refine gl tb ?_ | refine gg tb ?_ | refine ll tb ?_ | refine lg tb ?_); repeat ((first | refine G.condT rfl ?_ | refine G.condF rfl ?_); try (first | refine gl tb ?_ | refine gg tb ?_ | refine ll tb ?_ | refine lg tb ?_))
  refine GL.cons (Step.callX rfl rfl (by repeat (first | exact OpL.nil | refine OpL.cons (Op1.of rfl (by first | exact fun _ => rfl | exact fun h => h | exact fun h => bL h | exact fun h => bL (bL h) | exact fun h => bL (bL (bL h)))) ?_)) c41 rfl (fun hc => text_ok s2 wd w2 ho2.sli (by decide) (by decide)) ?_)
  intro w3 hx3
  try (first | refine gl tb ?_ | refine gg tb ?_ | refine ll tb ?_ | refine lg tb ?_); repeat ((first | refine G.condT rfl ?_ | refine G.condF rfl ?_); try (first | refine gl tb ?_ | refine gg tb ?_ | refine ll tb ?_ | refine lg tb ?_))
  refine GL.cons (Step.callX rfl rfl (by repeat (first | exact OpL.nil | refine OpL.cons (Op1.of rfl (by first | exact fun _ => rfl | exact fun h => h | exact fun h => bL h | exact fun h => bL (bL h) | exact fun h => bL (bL (bL h)))) ?_)) c50 rfl (fun hc => get_ok s2 wd [98] w3 (ho2.to hx3).sli) ?_)
  intro w4 hx4
  try (first | refine gl tb ?_ | refine gg tb ?_ | refine ll tb ?_ | refine lg tb ?_); repeat ((first | refine G.condT rfl ?_ | refine G.condF rfl ?_); try (first | refine gl tb ?_ | refine gg tb ?_ | refine ll tb ?_ | refine lg tb ?_))
  refine G.ret1 rfl rfl rfl rfl ?_
  refine ⟨?_, (hx02.trans hx3).trans hx4⟩
  rw [wd_text, wd_get]
  simp [wd]
end Go.Proofs.YtfffblopkaandaaDoor
