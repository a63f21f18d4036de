/- Part of the proof of a statement about the given program. -/
import Derived.Test.YtcngoccnfmhhnaaGreatDoorP04
import Derived.Shelf.Strings.Search1
import Derived.Shelf.Strings.Search2
import Derived.Shelf.Bytes.SlIndexAt
import Derived.Test.YtcngoccnfmhhnaaGreatDoorProg
import Derived.Shelf.SlSortCmp.NoneTotal
import Derived.Lib.IndexLaws
import Derived.Lib.Bytes
import Derived.Deep.Slices
import Derived.ProofKit
import Derived.Carry
import Derived.Deep.DeepHandedRow
import Derived.OpenShut
import Derived.Lib.SlTrimSet
import Derived.Shelf.Strings.SlTrimAscii
set_option linter.unusedSimpArgs false
set_option linter.unusedVariables false
set_option linter.unusedSectionVars false
section
open Go Go.Vg Go.RowKit Go.Proofs Go.Proofs.YtcngoccnfmhhnaaGreatDoor
namespace Go.Proofs.YtcngoccnfmhhnaaGreatDoor
open Go.Ex

/-- the three results, in cells -/
structure Rs3 (w : World) (c0 c1 c2 : Nat) (u0 : List Value) (u1 : Value) (u2 : List Value) : Prop where
  b0 : Bx w c0 u0
  b1 : Bx w c1 [u1]
  b2 : Bx w c2 u2
  l0 : u0.length = 4
  l2 : u2.length = 2
def linZ : List Value := [.slice none 0 0, Fl 0, .int .i64 0, .bool false]

set_option maxHeartbeats 1000000 in
theorem catch_ret (w : World) (c0 c1 c2 : Nat) :
    CallsD Tryz.prog 115 ⟨[ptr c0, ptr c1, ptr c2]⟩ .returning w fun en u w' => en = .returned (.tuple #[]) ∧ u = .returning ∧ w' = w := by
  refine calls_catch (v := .nilIface) (S := fun w' => w' = w) Tryz.func115 rfl Tryz.ntmps115 rfl rfl rfl (fun c cs hm => by simp [recoverD, hm]) ?_
  simp only [argEnv]
  refine rn ?_
  refine GL.cons (Step.eqNil tb rfl (Op1.of rfl (by first | exact fun _ => rfl | exact fun h => h | exact fun h => bL h | exact fun h => bL (bL h) | exact fun h => bL (bL (bL h)))) (Op1.of rfl (by first | exact fun _ => rfl | exact fun h => h | exact fun h => bL h | exact fun h => bL (bL h) | exact fun h => bL (bL (bL h)))) rfl rfl ?_)
  refine rn ?_
  exact G.endCatch rfl rfl rfl
set_option maxHeartbeats 1000000 in
theorem catch_panic (w : World) (c0 c1 c2 : Nat) (a e : Int) {u0 u2 : List Value} {u1 : Value} (h : Rs3 w c0 c1 c2 u0 u1 u2) (h01 : c0 < c1) (h12 : c1 < c2) :
    CallsD Tryz.prog 115 ⟨[ptr c0, ptr c1, ptr c2]⟩ (.panicking [{ v := .iface 107 (.agg ⟨[.int .i64 a, .int .i64 e]⟩), recovered := false }]) w fun en u w' => en = .returned (.tuple #[]) ∧ u = .panicking [{ v := .iface 107 (.agg ⟨[.int .i64 a, .int .i64 e]⟩), recovered := true }] ∧
      (Rs3 w' c0 c1 c2 linZ (.slice none 0 0) [.int .i64 a, .int .i64 e] ∧ Below c0 w w') := by
  refine calls_catch (v := .iface 107 (.agg ⟨[.int .i64 a, .int .i64 e]⟩)) (S := fun w' => Rs3 w' c0 c1 c2 linZ (.slice none 0 0) [.int .i64 a, .int .i64 e] ∧ Below c0 w w') Tryz.func115 rfl Tryz.ntmps115 rfl rfl rfl (fun c cs hm => by simp [recoverD, hm]) ?_
  simp only [argEnv]
  refine rn ?_
  refine GL.cons (Step.eqIface tb rfl (Op1.of rfl (by first | exact fun _ => rfl | exact fun h => h | exact fun h => bL h | exact fun h => bL (bL h) | exact fun h => bL (bL (bL h)))) (Op1.of rfl (by first | exact fun _ => rfl | exact fun h => h | exact fun h => bL h | exact fun h => bL (bL h) | exact fun h => bL (bL (bL h)))) rfl rfl ?_)
  refine rn ?_
  refine GL.cons (Step.assertT tb rfl (Op1.of rfl (by first | exact fun _ => rfl | exact fun h => h | exact fun h => bL h | exact fun h => bL (bL h) | exact fun h => bL (bL (bL h)))) rfl rfl rfl ?_)
  refine rn ?_
  have h3 := h.b2.lt
  refine sAl tb (fun W1 hb1 hs1 hx1 => ?_)
  refine rn ?_
  refine sSt tb (fun W2 hb2 hw2 => ?_)
  have hB2 : Below c0 w W2 := (hx1.mono (by omega)).wr hw2 (by omega)
  have hq0 : Bx W2 c0 u0 := (h.b0.to hx1).wr hw2 (by omega)
  have hq1 : Bx W2 c1 [u1] := (h.b1.to hx1).wr hw2 (by omega)
  have hq2 : Bx W2 c2 u2 := (h.b2.to hx1).wr hw2 (by omega)
  have hbe : Bx W2 w.heap.size [.int .i64 a, .int .i64 e] := hb2
  refine rn ?_
  have hbe := hbe.to (Ext.drew W2)
  have hq0 := hq0.to (Ext.drew W2)
  have hq1 := hq1.to (Ext.drew W2)
  have hq2 := hq2.to (Ext.drew W2)
  have hB2 := hB2.drew
  refine G.regionM [(0, true), (1, true), (2, false), (3, false), (4, false)] (fun w' => Bx w' w.heap.size [.int .i64 a, .int .i64 e]) (by kernel_rfl) (by kernel_rfl) rfl mixed (hbe) rfl ?_
  refine rd ?_
  refine GM.read (fun w' hS => Step.build tb rfl rfl rfl rfl rfl rfl rfl rfl rfl ⟨rfl, rfl⟩) rfl rfl ?_
  refine rd ?_
  refine GM.read (fun w' hS => Step.loadA tb rfl (Op1.of rfl (by first | exact fun _ => rfl | exact fun h => h | exact fun h => bL h | exact fun h => bL (bL h) | exact fun h => bL (bL (bL h)))) rfl rfl rfl (fun hc => Bx.cells hS) (fun _ => rfl) rfl ⟨rfl, rfl⟩) rfl rfl ?_
  refine rd ?_
  have n0 : w.heap.size ≠ c0 := by omega
  have n1 : w.heap.size ≠ c1 := by omega
  have n2 : w.heap.size ≠ c2 := by omega
  refine GM.eff (Step.store0 (vs := linZ) tb rfl (Op1.of rfl (by first | exact fun _ => rfl | exact fun h => h | exact fun h => bL h | exact fun h => bL (bL h) | exact fun h => bL (bL (bL h)))) (Op1.of rfl (by first | exact fun _ => rfl | exact fun h => h | exact fun h => bL h | exact fun h => bL (bL h) | exact fun h => bL (bL (bL h)))) rfl rfl rfl (by
    intro y hy
    simp only [linZ, List.mem_cons, List.not_mem_nil, or_false] at hy
    rcases hy with rfl | rfl | rfl | rfl <;> rfl) hq0 h.l0 ?_)
  intro W3 hb3 hw3
  have hbe := hbe.wr hw3 n0
  have hq1 := hq1.wr hw3 (by omega)
  have hq2 := hq2.wr hw3 (by omega)
  refine ⟨hbe, ?_⟩
  refine GM.eff (Step.store0 tb rfl (Op1.of rfl (by first | exact fun _ => rfl | exact fun h => h | exact fun h => bL h | exact fun h => bL (bL h) | exact fun h => bL (bL (bL h)))) (Op1.of rfl (by first | exact fun _ => rfl | exact fun h => h | exact fun h => bL h | exact fun h => bL (bL h) | exact fun h => bL (bL (bL h)))) rfl rfl rfl (by simp [Value.oneCell']) hq1 rfl ?_)
  intro W4 hb4 hw4
  have hbe := hbe.wr hw4 n1
  have hq2 := hq2.wr hw4 (by omega)
  refine ⟨hbe, ?_⟩
  refine GM.eff (Step.store0 tb rfl (Op1.of rfl (by first | exact fun _ => rfl | exact fun h => h | exact fun h => bL h | exact fun h => bL (bL h) | exact fun h => bL (bL (bL h)))) (Op1.of rfl (by first | exact fun _ => rfl | exact fun h => h | exact fun h => bL h | exact fun h => bL (bL h) | exact fun h => bL (bL (bL h)))) rfl rfl rfl (by simp [Value.oneCell']) hq2 h.l2 ?_)
  intro W5 hb5 hw5
  refine ⟨hbe.wr hw5 n2, ?_⟩
  refine rd ?_
  refine GM.nil ?_
  refine rn ?_
  refine G.endCatch rfl rfl ⟨⟨(hb3.wr hw4 (by omega)).wr hw5 (by omega), hb4.wr hw5 (by omega), hb5, rfl, rfl⟩, ((hB2.wr hw3 (by omega)).wr hw4 (by omega)).wr hw5 (by omega)⟩
/-- what a reading of a line gives -/
def GivS (s : List UInt8) (w : World) (r : Value) (w' : World) : Prop :=
  Ext w w' ∧ ((∃ L v, sampleP Num.intP s = some L ∧ r = .tuple ⟨[.agg ⟨linC (.slice none 0 0) L.val L.time⟩, v, .agg ⟨[.int .i64 0, .int .i64 0]⟩]⟩ ∧ Lab.LO w' w.heap.size v ((nameB, L.name) :: L.labs)) ∨
    (sampleP Num.intP s = none ∧ ∃ a e : Int, e ≠ 0 ∧ r = .tuple ⟨[.agg ⟨linZ⟩, .slice none 0 0, .agg ⟨[.int .i64 a, .int .i64 e]⟩]⟩))
set_option maxHeartbeats 4000000 in
theorem given_ok (w : World) (s : List UInt8) (hs : s.length ≤ 1000000000) (hT : Tabs w) : Ret Tryz.prog 87 ⟨[S s]⟩ w (GivS s w) := by
  refine ret_of_GDf Tryz.func87 rfl Tryz.ntmps87 rfl ?_
  simp only [argEnv]
  refine rn ?_
  refine sAl tb (fun W1 hb1 hs1 hx1 => ?_)
  refine rn ?_
  refine sAl tb (fun W2 hb2 hs2 hx2 => ?_)
  refine rn ?_
  refine sAl tb (fun W3 hb3 hs3 hx3 => ?_)
  refine rn ?_
  have e1 : W1.heap.size = w.heap.size + 1 := hs1
  have e2 : W2.heap.size = w.heap.size + 2 := by omega
  have e3 : W3.heap.size = w.heap.size + 3 := by omega
  have hx03 := (hx1.trans hx2).trans hx3
  have hp0 : Bx W3 w.heap.size linZ := (hb1.to hx2).to hx3
  have hp1 : Bx W3 W1.heap.size [.slice none 0 0] := hb2.to hx3
  have hp2 : Bx W3 W2.heap.size [.int .i64 0, .int .i64 0] := hb3
  clear hb1 hb2 hb3 hx1 hx2 hx3
  have hP : ∀ (W : World) (t : Array Value) (en : Env) (a e : Int) (u0 u2 : List Value) (u1 : Value), e ≠ 0 → Fits 18 en t → Go.Vg.look en 2 = some (none, ptr w.heap.size) → Go.Vg.look en 3 = some (none, ptr W1.heap.size) → Go.Vg.look en 4 = some (none, ptr W2.heap.size) →
      Rs3 W w.heap.size W1.heap.size W2.heap.size u0 u1 u2 → Ext w W → sampleP Num.intP s = none →
      Leaves Tryz.prog Tryz.f87 t (fun en w' => ∃ v, en = .returned v ∧ GivS s w v w') [{ target := .fn (.func 115) ⟨[ptr w.heap.size, ptr W1.heap.size, ptr W2.heap.size]⟩, args := #[] }] (.panicking [{ v := .iface 107 (.agg ⟨[.int .i64 a, .int .i64 e]⟩), recovered := false }]) W := by
    intro W t en a e u0 u2 u1 he hf l2 l3 l4 hR hx hE
    refine leaves_panic c115 (catch_panic W _ _ _ a e hR (by omega) (by omega)) ?_
    rintro w' ⟨h4, hB⟩
    exact ⟨_, resCCC hf rfl l2 l3 l4 (RV.agg tb h4.b0.cells) (RV.one tb (Bx.c0 h4.b1 rfl)) (RV.agg tb h4.b2.cells), Below.trans hx hB, .inr ⟨hE, a, e, he, rfl⟩⟩
  refine GL.deferL rfl rfl (Op1.of rfl (by first | exact fun _ => rfl | exact fun h => h | exact fun h => bL h | exact fun h => bL (bL h) | exact fun h => bL (bL (bL h)))) ?_
  refine rn ?_
  refine sBox (fun W4 hb4 hs4 hx4 => ?_)
  refine rn ?_
  have hx04 := hx03.trans hx4
  have hp0 := hp0.to hx4
  have hp1 := hp1.to hx4
  have hp2 := hp2.to hx4
  have hr4 : Rd W4 W3.heap.size s 0 := ⟨hb4, hT.to hx04, by have := hT.lt; omega, Nat.zero_le _, hs⟩
  refine GL.callPk c116 (sample_ok W4 W3.heap.size s hr4) ?_ ?_
  · rintro ch W' t hf ⟨hn, ⟨a, e, he, rfl⟩, hk⟩
    exact hP W' t _ a e _ _ _ he hf rfl rfl rfl ⟨hp0.kp hk (by omega), hp1.kp hk (by omega), hp2.kp hk (by omega), rfl, rfl⟩ (hx04.ofKp hk (by omega)) hn
  rintro _ W5 ⟨L, v, hL, rfl, ho5, hk5⟩
  have hp0 := hp0.kp hk5 (by omega)
  have hp1 := hp1.kp hk5 (by omega)
  have hp2 := hp2.kp hk5 (by omega)
  have hx5 := hx04.ofKp hk5 (by omega)
  refine rn ?_
  refine sSt tb ?_ (vs := linC (.slice none 0 0) L.val L.time) (hv := rfl) (h1 := by
    intro y hy
    simp only [linC, List.mem_cons, List.not_mem_nil, or_false] at hy
    rcases hy with rfl | rfl | rfl | rfl <;> rfl)
  intro W6 hb6 hw6
  have hp1 := hp1.wr hw6 (by omega)
  have hp2 := hp2.wr hw6 (by omega)
  have hx6 : Ext w W6 := hx5.wr hw6 (Nat.le_refl _)
  have ho6 : Lab.LO W6 W4.heap.size v ((nameB, L.name) :: L.labs) := ho5.kp hw6.kp (by omega)
  refine rn ?_
  refine sSt tb ?_ (vs := [v]) (hv := ho6.cells) (h1 := by
    intro y hy
    obtain rfl := List.mem_singleton.1 hy
    exact ho6.sli.one y (List.mem_singleton.2 rfl))
  intro W7 hb7 hw7
  have hb6 := hb6.wr hw7 (by omega)
  have hp2 := hp2.wr hw7 (by omega)
  have hx7 : Ext w W7 := hx6.wr hw7 (by omega)
  have ho7 : Lab.LO W7 W4.heap.size v ((nameB, L.name) :: L.labs) := ho6.kp hw7.kp (by omega)
  refine rn ?_
  have hb6 := hb6.to (Ext.drew W7)
  have hb7 := hb7.to (Ext.drew W7)
  have hp2 := hp2.to (Ext.drew W7)
  have ho8 := ho7.to (Ext.drew W7)
  have hx8 := hx7.trans (Ext.drew W7)
  refine G.regionM [(0, true), (1, true), (2, true), (3, false), (4, false), (5, false)] (fun w' => Bx w' w.heap.size (linC (.slice none 0 0) L.val L.time) ∧ Bx w' W1.heap.size [v]) (by kernel_rfl) (by kernel_rfl) rfl mixed (⟨hb6, hb7⟩) rfl ?_
  refine GM.read (fun w' hS => Step.loadA tb rfl (Op1.of rfl (by first | exact fun _ => rfl | exact fun h => h | exact fun h => bL h | exact fun h => bL (bL h) | exact fun h => bL (bL (bL h)))) rfl rfl rfl (fun hc => Bx.cells hS.1) (fun _ => rfl) rfl ⟨rfl, rfl⟩) rfl rfl ?_
  refine rd ?_
  refine GM.read (fun w' hS => Step.load1 tb rfl (Op1.of rfl (by first | exact fun _ => rfl | exact fun h => h | exact fun h => bL h | exact fun h => bL (bL h) | exact fun h => bL (bL (bL h)))) rfl rfl (fun _ => Bx.c0 hS.2 rfl) rfl ⟨rfl, rfl⟩) rfl rfl ?_
  refine rd ?_
  refine GM.read (fun w' hS => Step.build tb rfl rfl rfl rfl rfl rfl rfl rfl rfl ⟨rfl, rfl⟩) rfl rfl ?_
  refine rd ?_
  refine GM.eff (Step.store0 (vs := linC (.slice none 0 0) L.val L.time) tb rfl (Op1.of rfl (by first | exact fun _ => rfl | exact fun h => h | exact fun h => bL h | exact fun h => bL (bL h) | exact fun h => bL (bL (bL h)))) (Op1.of rfl (by first | exact fun _ => rfl | exact fun h => h | exact fun h => bL h | exact fun h => bL (bL h) | exact fun h => bL (bL (bL h)))) rfl rfl rfl (by
    intro y hy
    simp only [linC, List.mem_cons, List.not_mem_nil, or_false] at hy
    rcases hy with rfl | rfl | rfl | rfl <;> rfl) hb6 rfl ?_)
  intro Wa hba hwa
  have hb7 := hb7.wr hwa (by omega)
  have hp2 := hp2.wr hwa (by omega)
  have hoa : Lab.LO Wa W4.heap.size v ((nameB, L.name) :: L.labs) := ho8.kp hwa.kp (by omega)
  refine ⟨⟨hba, hb7⟩, ?_⟩
  refine GM.eff (Step.store0 (vs := [v]) tb rfl (Op1.of rfl (by first | exact fun _ => rfl | exact fun h => h | exact fun h => bL h | exact fun h => bL (bL h) | exact fun h => bL (bL (bL h)))) (Op1.of rfl (by first | exact fun _ => rfl | exact fun h => h | exact fun h => bL h | exact fun h => bL (bL h) | exact fun h => bL (bL (bL h)))) rfl hoa.cells rfl (by
    intro y hy
    obtain rfl := List.mem_singleton.1 hy
    exact hoa.sli.one y (List.mem_singleton.2 rfl)) hb7 rfl ?_)
  intro Wb hbb hwb
  have hba := hba.wr hwb (by omega)
  have hp2 := hp2.wr hwb (by omega)
  have hob : Lab.LO Wb W4.heap.size v ((nameB, L.name) :: L.labs) := hoa.kp hwb.kp (by omega)
  refine ⟨⟨hba, hbb⟩, ?_⟩
  refine GM.eff (Step.store0 tb rfl (Op1.of rfl (by first | exact fun _ => rfl | exact fun h => h | exact fun h => bL h | exact fun h => bL (bL h) | exact fun h => bL (bL (bL h)))) (Op1.of rfl (by first | exact fun _ => rfl | exact fun h => h | exact fun h => bL h | exact fun h => bL (bL h) | exact fun h => bL (bL (bL h)))) rfl rfl rfl (by simp [Value.oneCell']) hp2 rfl ?_)
  intro Wc hbc hwc
  have hba := hba.wr hwc (by omega)
  have hbb := hbb.wr hwc (by omega)
  have hoc : Lab.LO Wc W4.heap.size v ((nameB, L.name) :: L.labs) := hob.kp hwc.kp (by omega)
  refine ⟨⟨hba, hbb⟩, ?_⟩
  refine rd ?_
  refine GM.nil ?_
  have hxc : Ext w Wc := ((hx8.wr hwa (by omega)).wr hwb (by omega)).wr hwc (by omega)
  refine G.ret fun t' hf => ?_
  refine leaves_ret c115 (catch_ret Wc _ _ _) ?_
  rintro w' rfl
  exact ⟨_, resCCC hf rfl rfl rfl rfl (RV.agg tb hba.cells) (RV.one tb (Bx.c0 hbb rfl)) (RV.agg tb hbc.cells), hxc, .inl ⟨L, v, hL, rfl, hoc.mono (by omega)⟩⟩
end Go.Proofs.YtcngoccnfmhhnaaGreatDoor
end
section
namespace Go.Proofs
open Go.Shelf
def Tryz.lays219_ren : Go.Shelf.Ren := ⟨fun | 219 => 114 | 217 => 137 | 225 => 138 | 224 => 84 | 267 => 139 | 266 => 157 | 314 => 158 | n => n, fun | 9 => 9 | 3 => 3 | 4 => 4 | 5 => 5 | 46 => 130 | 146 => 160 | 51 => 159 | n => n, fun | 1 => 1 | n => n⟩
theorem Tryz.lays219 : Go.Proofs.Lays.n219 Tryz.prog Tryz.lays219_ren := {
  mixed := by kernel_rfl
  f217 := Tryz.func137.trans (congrArg some (by kernel_rfl))
  f219 := Tryz.func114.trans (congrArg some (by kernel_rfl))
  f224 := Tryz.func84.trans (congrArg some (by kernel_rfl))
  f225 := Tryz.func138.trans (congrArg some (by kernel_rfl))
  f266 := Tryz.func157.trans (congrArg some (by kernel_rfl))
  f267 := Tryz.func139.trans (congrArg some (by kernel_rfl))
  f314 := Tryz.func158.trans (congrArg some (by kernel_rfl))
  t3 := Tryz.underlying3
  a3 := Tryz.isAgg3
  z3 := Tryz.sizeOf3
  v3 := Tryz.zeroValue3
  t4 := Tryz.underlying4
  a4 := Tryz.isAgg4
  z4 := Tryz.sizeOf4
  v4 := Tryz.zeroValue4
  t5 := Tryz.underlying5
  a5 := Tryz.isAgg5
  z5 := Tryz.sizeOf5
  v5 := Tryz.zeroValue5
  t9 := Tryz.underlying9
  a9 := Tryz.isAgg9
  z9 := Tryz.sizeOf9
  v9 := Tryz.zeroValue9
  t46 := Tryz.underlying130
  a46 := Tryz.isAgg130
  z46 := Tryz.sizeOf130
  v46 := Tryz.zeroValue130
  t51 := Tryz.underlying159
  a51 := Tryz.isAgg159
  z51 := Tryz.sizeOf159
  v51 := Tryz.zeroValue159
  t146 := Tryz.underlying160
  a146 := Tryz.isAgg160
  z146 := Tryz.sizeOf160
  v146 := Tryz.zeroValue160
  g1 := by kernel_rfl }
def Tryz.lays185_ren : Go.Shelf.Ren := ⟨fun | 185 => 47 | 187 => 81 | 115 => 82 | 253 => 83 | 224 => 84 | 254 => 85 | 255 => 112 | 291 => 113 | n => n, fun | 37 => 22 | 3 => 3 | 4 => 4 | 0 => 0 | 5 => 5 | 46 => 130 | 9 => 9 | 146 => 160 | 51 => 159 | n => n, fun | 1 => 1 | n => n⟩
theorem Tryz.lays185 : Go.Proofs.Lays.n185 Tryz.prog Tryz.lays185_ren := {
  mixed := by kernel_rfl
  f115 := Tryz.func82.trans (congrArg some (by kernel_rfl))
  f185 := Tryz.func47.trans (congrArg some (by kernel_rfl))
  f187 := Tryz.func81.trans (congrArg some (by kernel_rfl))
  f224 := Tryz.func84.trans (congrArg some (by kernel_rfl))
  f253 := Tryz.func83.trans (congrArg some (by kernel_rfl))
  f254 := Tryz.func85.trans (congrArg some (by kernel_rfl))
  f255 := Tryz.func112.trans (congrArg some (by kernel_rfl))
  f291 := Tryz.func113.trans (congrArg some (by kernel_rfl))
  t0 := Tryz.underlying0
  a0 := Tryz.isAgg0
  z0 := Tryz.sizeOf0
  v0 := Tryz.zeroValue0
  t3 := Tryz.underlying3
  a3 := Tryz.isAgg3
  z3 := Tryz.sizeOf3
  v3 := Tryz.zeroValue3
  t4 := Tryz.underlying4
  a4 := Tryz.isAgg4
  z4 := Tryz.sizeOf4
  v4 := Tryz.zeroValue4
  t5 := Tryz.underlying5
  a5 := Tryz.isAgg5
  z5 := Tryz.sizeOf5
  v5 := Tryz.zeroValue5
  t9 := Tryz.underlying9
  a9 := Tryz.isAgg9
  z9 := Tryz.sizeOf9
  v9 := Tryz.zeroValue9
  t37 := Tryz.underlying22
  a37 := Tryz.isAgg22
  z37 := Tryz.sizeOf22
  v37 := Tryz.zeroValue22
  t46 := Tryz.underlying130
  a46 := Tryz.isAgg130
  z46 := Tryz.sizeOf130
  v46 := Tryz.zeroValue130
  t51 := Tryz.underlying159
  a51 := Tryz.isAgg159
  z51 := Tryz.sizeOf159
  v51 := Tryz.zeroValue159
  t146 := Tryz.underlying160
  a146 := Tryz.isAgg160
  z146 := Tryz.sizeOf160
  v146 := Tryz.zeroValue160
  g1 := by kernel_rfl }
end Go.Proofs
end
section
open Go Go.Vg Go.RowKit Go.Proofs Go.Proofs.YtcngoccnfmhhnaaGreatDoor
namespace Go.Proofs.YtcngoccnfmhhnaaGreatDoor.Lab

abbrev Tabs (w : World) : Prop := Lib.Utf8Tabs (Tryz.laysValid_ren.g 3) (Tryz.laysValid_ren.g 4) w
theorem validS_ok (s : List UInt8) (w : World) (hs : Sz s) (hT : Tabs w) :
    Ret Tryz.prog 63 ⟨[S s]⟩ w fun v w' => v = .bool (Lib.validD s) ∧ Ext w w' :=
  Calls.mono (Any.utf8_ValidString Tryz.laysValid ⟨⟨s⟩⟩ w hs hT) fun _ _ ⟨he, hb⟩ => ⟨_, he, rfl, hb⟩
theorem Tabs.to {w w' : World} (h : Tabs w) (hx : Ext w w') : Tabs w' := Utf8Tabs_below h hx
def okB (x : Lab) : Bool := if (!namedB false x.1 || decide ((1024 : Int) < x.2.length) || !Lib.validD x.2) = true then false else (!decide (x.1 = nameS) || decide (x.2 = []) || namedB true x.2)
theorem right_ok (x : Lab) (w : World) (hx : LabSz x) (hT : Tabs w) :
    Ret Tryz.prog 117 ⟨[.agg ⟨labC x⟩]⟩ w fun v w' => v = .bool (okB x) ∧ Ext w w' := by
  refine ret_of_G Tryz.func117 rfl Tryz.ntmps117 rfl ?_
  simp only [argEnv]
  refine rg ?_
  refine GL.cons (Step.box rfl (Op1.of rfl (by first | exact fun _ => rfl | exact fun h => h | exact fun h => bL h | exact fun h => bL (bL h) | exact fun h => bL (bL (bL h)))) (rfl) rfl ?_)
  intro w1 hb1 hs1 hx1
  refine rg ?_
  refine GL.cons (Step.fieldAddr tb rfl (Op1.of rfl (by first | exact fun _ => rfl | exact fun h => h | exact fun h => bL h | exact fun h => bL (bL h) | exact fun h => bL (bL (bL h)))) rfl rfl rfl rfl (fun _ => (hb1.cells).ptr) rfl ?_); refine GL.cons (Step.load1 tb rfl (Op1.of rfl (by first | exact fun _ => rfl | exact fun h => h | exact fun h => bL h | exact fun h => bL (bL h) | exact fun h => bL (bL (bL h)))) rfl rfl (fun _ => (hb1.cells).cell (i := 0) rfl) rfl ?_)
  refine GL.cons (Step.callX rfl rfl (by repeat (first | exact OpL.nil | refine OpL.cons (Op1.of rfl (by first | exact fun _ => rfl | exact fun h => h | exact fun h => bL h | exact fun h => bL (bL h) | exact fun h => bL (bL (bL h)))) ?_)) c144 rfl (fun hc => rightName_ok x.1 w1 hx.1) ?_)
  intro w2 hx2
  have hb2 := hb1.to hx2
  refine rg ?_
  refine GL.cons (Step.fieldAddr tb rfl (Op1.of rfl (by first | exact fun _ => rfl | exact fun h => h | exact fun h => bL h | exact fun h => bL (bL h) | exact fun h => bL (bL (bL h)))) rfl rfl rfl rfl (fun _ => (hb2.cells).ptr) rfl ?_); refine GL.cons (Step.load1 tb rfl (Op1.of rfl (by first | exact fun _ => rfl | exact fun h => h | exact fun h => bL h | exact fun h => bL (bL h) | exact fun h => bL (bL (bL h)))) rfl rfl (fun _ => (hb2.cells).cell (i := 1) rfl) rfl ?_)
  refine rg ?_
  refine GL.cons (Step.fieldAddr tb rfl (Op1.of rfl (by first | exact fun _ => rfl | exact fun h => h | exact fun h => bL h | exact fun h => bL (bL h) | exact fun h => bL (bL (bL h)))) rfl rfl rfl rfl (fun _ => (hb2.cells).ptr) rfl ?_); refine GL.cons (Step.load1 tb rfl (Op1.of rfl (by first | exact fun _ => rfl | exact fun h => h | exact fun h => bL h | exact fun h => bL (bL h) | exact fun h => bL (bL (bL h)))) rfl rfl (fun _ => (hb2.cells).cell (i := 1) rfl) rfl ?_)
  refine rg ?_
  refine GL.cons (Step.callX rfl rfl (by repeat (first | exact OpL.nil | refine OpL.cons (Op1.of rfl (by first | exact fun _ => rfl | exact fun h => h | exact fun h => bL h | exact fun h => bL (bL h) | exact fun h => bL (bL (bL h)))) ?_)) c63 rfl (fun hc => validS_ok x.2 w2 hx.2 (hT.to (hx1.trans hx2))) ?_)
  intro w3 hx3
  have hb3 := hb2.to hx3
  refine rg ?_
  first | refine G.condD rfl (fun hc => ?_) (fun hc => ?_) | refine G.condN rfl (fun hc => ?_) (fun hc => ?_) | refine G.cond rfl (fun hc => ?_) (fun hc => ?_)
  · refine rg ?_
    refine G.ret1 rfl rfl rfl rfl ?_
    refine ⟨?_, (hx1.trans hx2).trans hx3⟩
    have : okB x = if (!namedB false x.1 || decide ((1024 : Int) < x.2.length) || !Lib.validD x.2) = true then false else (!decide (x.1 = nameS) || decide (x.2 = []) || namedB true x.2) := rfl
    rw [this, if_pos hc]
  · have : okB x = (!decide (x.1 = nameS) || decide (x.2 = []) || namedB true x.2) := by unfold okB; rw [if_neg (by rw [hc]; simp)]
    rw [this]
    refine rg ?_
    refine GL.cons (Step.fieldAddr tb rfl (Op1.of rfl (by first | exact fun _ => rfl | exact fun h => h | exact fun h => bL h | exact fun h => bL (bL h) | exact fun h => bL (bL (bL h)))) rfl rfl rfl rfl (fun _ => (hb3.cells).ptr) rfl ?_); refine GL.cons (Step.load1 tb rfl (Op1.of rfl (by first | exact fun _ => rfl | exact fun h => h | exact fun h => bL h | exact fun h => bL (bL h) | exact fun h => bL (bL (bL h)))) rfl rfl (fun _ => (hb3.cells).cell (i := 0) rfl) rfl ?_)
    refine rg ?_
    refine GL.cons (Step.fieldAddr tb rfl (Op1.of rfl (by first | exact fun _ => rfl | exact fun h => h | exact fun h => bL h | exact fun h => bL (bL h) | exact fun h => bL (bL (bL h)))) rfl rfl rfl rfl (fun _ => (hb3.cells).ptr) rfl ?_); refine GL.cons (Step.load1 tb rfl (Op1.of rfl (by first | exact fun _ => rfl | exact fun h => h | exact fun h => bL h | exact fun h => bL (bL h) | exact fun h => bL (bL (bL h)))) rfl rfl (fun _ => (hb3.cells).cell (i := 1) rfl) rfl ?_)
    refine rg ?_
    refine GL.cons (Step.fieldAddr tb rfl (Op1.of rfl (by first | exact fun _ => rfl | exact fun h => h | exact fun h => bL h | exact fun h => bL (bL h) | exact fun h => bL (bL (bL h)))) rfl rfl rfl rfl (fun _ => (hb3.cells).ptr) rfl ?_); refine GL.cons (Step.load1 tb rfl (Op1.of rfl (by first | exact fun _ => rfl | exact fun h => h | exact fun h => bL h | exact fun h => bL (bL h) | exact fun h => bL (bL (bL h)))) rfl rfl (fun _ => (hb3.cells).cell (i := 1) rfl) rfl ?_)
    refine GL.cons (Step.callX rfl rfl (by repeat (first | exact OpL.nil | refine OpL.cons (Op1.of rfl (by first | exact fun _ => rfl | exact fun h => h | exact fun h => bL h | exact fun h => bL (bL h) | exact fun h => bL (bL (bL h)))) ?_)) c61 rfl (fun hc => rightMetric_ok x.2 w3 hx.2) ?_)
    intro w4 hx4
    refine rg ?_
    refine G.ret1 rfl rfl rfl rfl ?_
    exact ⟨rfl, ((hx1.trans hx2).trans hx3).trans hx4⟩
end Go.Proofs.YtcngoccnfmhhnaaGreatDoor.Lab
end
section
namespace Go.Vg
open Go.RowKit Go.Proofs Go.Sort

theorem flatK_list {α : Type} [Inhabited α] (enc : α → List Value) (k : Nat) (hk : ∀ x, (enc x).length = k) (ls : List α) : (flatK enc k ls.toArray).toList = (ls.map enc).flatten := by
  have hl : (ls.map enc).flatten.length = ls.length * k := by
    rw [flatten_length _ (fun x hx => by obtain ⟨y, _, rfl⟩ := List.mem_map.1 hx; exact hk y), List.length_map]
  refine List.ext_getElem? fun t => ?_
  by_cases ht : t < ls.length * k
  · have hk0 : 0 < k := by
      rcases Nat.eq_zero_or_pos k with h | h
      · subst h; simp at ht
      · exact h
    have h1 : t / k < ls.length := Nat.div_lt_of_lt_mul (by rw [Nat.mul_comm]; exact ht)
    have h2 : t % k < k := Nat.mod_lt _ hk0
    have e1 : (flatK enc k ls.toArray)[t]? = some ((enc (ls.toArray[t / k]!))[t % k]!) := by
      rw [← get_flatK enc k ls.toArray t (by simpa using ht)]
      rw [getElem!_pos _ t (by simpa using ht)]
      simp [ht]
    rw [Array.getElem?_toList, e1]
    have e2 : ls.toArray[t / k]! = ls[t / k] := by rw [getElem!_pos _ _ (by simpa using h1)]; simp
    have e3 : (enc (ls[t / k]))[t % k]! = (enc ls[t / k])[t % k]'(by rw [hk]; exact h2) := by rw [getElem!_pos]
    have := flatten_get (k := k) (ls.map enc) (fun x hx => by obtain ⟨y, _, rfl⟩ := List.mem_map.1 hx; exact hk y) (t / k) (enc ls[t / k]) (by simp [h1]) (t % k) ((enc ls[t / k])[t % k]'(by rw [hk]; exact h2)) (by simp)
    rw [Nat.mul_comm, Nat.div_add_mod] at this
    rw [this, e2, e3]
  · rw [List.getElem?_eq_none (by simp; omega), List.getElem?_eq_none (by rw [hl]; omega)]

theorem Owns.sort {w : World} {B : Nat} {v : Value} {et k : Nat} {α : Type} [Inhabited α] {enc : α → List Value} (hk : ∀ x, (enc x).length = k) {ls : List α} (h : Owns w B v et k (ls.map enc)) :
    (v = .slice none 0 0 ∧ ls = []) ∨ ∃ g cap, v = .slice (some ⟨g, 0, none⟩) ls.length cap ∧ B ≤ g ∧ g < w.heap.size ∧ HoldsK enc k w g 0 ls.toArray ∧
      ∀ (ls' : List α) (n : Nat) (os : Array Obj), ls'.length = ls.length → Owns (sortWorldK enc k w g 0 n ls'.toArray os) B v et k (ls'.map enc) ∧ ∀ w0, Below B w0 w → Below B w0 (sortWorldK enc k w g 0 n ls'.toArray os) := by
  obtain ⟨⟨hl, h⟩, hkk, hb⟩ := h
  rcases h with ⟨rfl, hn⟩ | ⟨g, cap, cur, rfl, hB, hg, hc, hm, hs, ht⟩
  · refine .inl ⟨rfl, ?_⟩
    simpa using hn
  · simp only [List.length_map] at hl hc hb ht hs ⊢
    have hcur : ∀ j, j < ls.length * k → cur[j]? = (ls.map enc).flatten[j]? := by
      intro j hj
      rw [← ht, List.getElem?_take_of_lt hj]; simp
    have hlt : g < w.heap.size := (Array.getElem?_eq_some_iff.1 hg).1
    have hle : ls.length * k ≤ cap * k := Nat.mul_le_mul_right _ hc
    refine .inr ⟨g, cap, rfl, hB, hlt, ?_, ?_⟩
    · intro j hj
      rw [size_flatK] at hj
      simp only [List.size_toArray] at hj
      have e1 : (flatK enc k ls.toArray)[j]? = cur[j]? := by
        rw [hcur j hj, ← flatK_list enc k hk ls]; simp
      constructor
      · have : w.cell? ⟨g, 0 + j, none⟩ = cur[j]? := by rw [Nat.zero_add, cell_of_row w g j cur et (0, 0) hg]
        rw [this, ← e1, getElem!_pos _ j (by simpa using hj)]
        simp [hj]
      · simp [World.frozen?, hg]
    · intro ls' n os hls
      have hF : (flatK enc k ls'.toArray).size = ls'.length * k := by simp
      have hheap : (sortWorldK enc k w g 0 n ls'.toArray os).heap[g]? = some (.cells (putCells id 0 (flatK enc k ls'.toArray) cur) et (0, 0)) := by
        simp only [sortWorldK, grow, putRowK, putRow, mapBlock, heap_ahead]
        rw [Array.getElem?_append_left (by simpa using hlt)]
        simp [Array.getElem?_modify, hg, onCells]
      refine ⟨⟨⟨?_, .inr ⟨g, cap, _, by rw [List.length_map, hls], hB, hheap, by rw [List.length_map, hls]; exact hc, hm, ?_, ?_⟩⟩, fun x hx => by obtain ⟨y, _, rfl⟩ := List.mem_map.1 hx; exact hk y, by rw [List.length_map, hls]; exact hb⟩, ?_⟩
      · rw [flatten_length _ (fun x hx => by obtain ⟨y, _, rfl⟩ := List.mem_map.1 hx; exact hk y)]
      · simp [putCells, hs]
      · rw [← flatK_list enc k hk ls', List.length_map]
        refine List.ext_getElem? fun t => ?_
        by_cases htt : t < ls'.length * k
        · rw [List.getElem?_take_of_lt htt]
          have h3 : t < cur.size := by rw [hs]; rw [hls] at htt; omega
          simp only [Array.getElem?_toList, putCells, Array.getElem?_mapIdx]
          rw [show cur[t]? = some cur[t] by simp [h3]]
          simp only [Option.map_some, hF, Nat.zero_le, Nat.zero_add, htt, and_self, if_true, Nat.sub_zero, id]
          rw [getElem!_pos _ t (by simpa using htt)]
          simp [htt]
        · rw [List.getElem?_eq_none (by simp; omega), List.getElem?_eq_none (by simp; omega)]
      · intro w0 hb0
        refine ⟨hb0.os, hb0.tape, hb0.output, ?_, ?_⟩
        · have := hb0.size
          simp only [sortWorldK, grow, putRowK, putRow, mapBlock, heap_ahead, Array.size_append, Array.size_modify]; omega
        · intro q hq
          rw [← hb0.block q hq]
          simp only [sortWorldK, grow, putRowK, putRow, mapBlock, heap_ahead]
          have hne : g ≠ q := by omega
          by_cases hqs : q < w.heap.size
          · rw [Array.getElem?_append_left (by simpa using hqs)]
            simp [Array.getElem?_modify, hne]
          · exact absurd (show q < w.heap.size by omega) hqs
end Go.Vg
end
section
open Go Go.Vg Go.RowKit Go.Proofs Go.Proofs.YtcngoccnfmhhnaaGreatDoor
namespace Go.Proofs.YtcngoccnfmhhnaaGreatDoor.Lab

def cmpB (a b : List UInt8) : Int := if Op.bytesLess a b = true then -1 else if (!Op.bytesLess a b && !decide (a = b)) = true then 1 else 0
theorem isNaN_ok (s : List UInt8) (w : World) : Ret Tryz.prog 147 ⟨[S s]⟩ w fun r w' => r = .bool false ∧ w' = w := by
  refine ret_of_G Tryz.func147 rfl Tryz.ntmps147 rfl ?_
  simp only [argEnv]
  refine rg ?_
  refine G.ret1 rfl rfl rfl rfl ?_
  exact ⟨by simp, rfl⟩
theorem compare_ok (a b : List UInt8) (w : World) : Ret Tryz.prog 120 ⟨[S a, S b]⟩ w fun r w' => r = .int .i64 (cmpB a b) ∧ w' = w := by
  refine ret_of_G Tryz.func120 rfl Tryz.ntmps120 rfl ?_
  simp only [argEnv]
  refine rg ?_
  refine GL.cons (Step.callF rfl rfl rfl c147 rfl (isNaN_ok a w) ?_)
  rintro _ w1 ⟨rfl, hw⟩
  obtain rfl : w = w1 := hw.symm
  refine rg ?_
  refine GL.cons (Step.callF rfl rfl rfl c147 rfl (isNaN_ok b w) ?_)
  rintro _ w1 ⟨rfl, hw⟩
  obtain rfl : w = w1 := hw.symm
  refine rg ?_
  first | refine G.condD rfl (fun hc => ?_) (fun hc => ?_) | refine G.condN rfl (fun hc => ?_) (fun hc => ?_) | refine G.cond rfl (fun hc => ?_) (fun hc => ?_)
  · refine rg ?_
    refine G.ret1 rfl rfl rfl rfl ?_
    exact ⟨by rw [cmpB, if_pos hc], rfl⟩
  · have hc1 := hc
    refine rg ?_
    first | refine G.condD rfl (fun hc => ?_) (fun hc => ?_) | refine G.condN rfl (fun hc => ?_) (fun hc => ?_) | refine G.cond rfl (fun hc => ?_) (fun hc => ?_)
    · refine rg ?_
      refine G.ret1 rfl rfl rfl rfl ?_
      exact ⟨by rw [cmpB, if_neg (by rw [hc1]; simp), if_pos hc], rfl⟩
    · refine rg ?_
      refine G.ret1 rfl rfl rfl rfl ?_
      exact ⟨by rw [cmpB, if_neg (by rw [hc1]; simp), if_neg (by rw [hc]; simp)], rfl⟩
open Go.Sort in
theorem new1_ok (x y : Lab) (w : World) : Ret Tryz.prog 119 ⟨[.agg ⟨labC x⟩, .agg ⟨labC y⟩]⟩ w fun r w' => r = .int .i64 (cmpB x.1 y.1) ∧ ∃ q os, w' = grow (w.drewN q) os := by
  refine ret_of_G Tryz.func119 rfl Tryz.ntmps119 rfl ?_
  simp only [argEnv]
  refine rg ?_
  refine GL.cons (Step.boxE rfl (Op1.of rfl (by first | exact fun _ => rfl | exact fun h => h | exact fun h => bL h | exact fun h => bL (bL h) | exact fun h => bL (bL (bL h)))) (rfl) rfl ?_)
  refine GL.cons (Step.boxE rfl (Op1.of rfl (by first | exact fun _ => rfl | exact fun h => h | exact fun h => bL h | exact fun h => bL (bL h) | exact fun h => bL (bL (bL h)))) (rfl) rfl ?_)
  have hb1 : Bx ((w.alloc (.cells ⟨labC x⟩ 76)).alloc (.cells ⟨labC y⟩ 76)) w.heap.size (labC x) := (Bx.new w (labC x) 76).to (Ext.alloc _ _)
  have hb2 : Bx ((w.alloc (.cells ⟨labC x⟩ 76)).alloc (.cells ⟨labC y⟩ 76)) (w.alloc (.cells ⟨labC x⟩ 76)).heap.size (labC y) := Bx.new _ _ _
  have hw : ∃ q os, (w.alloc (.cells ⟨labC x⟩ 76)).alloc (.cells ⟨labC y⟩ 76) = grow (w.drewN q) os := ⟨0, _, by rw [alloc_eq_grow, alloc_eq_grow, grow_grow]; rfl⟩
  generalize (w.alloc (.cells ⟨labC x⟩ 76)).heap.size = b at hb2 ⊢
  generalize (w.alloc (.cells ⟨labC x⟩ 76)).alloc (.cells ⟨labC y⟩ 76) = w2 at hb1 hb2 hw ⊢
  refine rg ?_
  refine GL.cons (Step.fieldAddr tb rfl (Op1.of rfl (by first | exact fun _ => rfl | exact fun h => h | exact fun h => bL h | exact fun h => bL (bL h) | exact fun h => bL (bL (bL h)))) rfl rfl rfl rfl (fun _ => (hb1.cells).ptr) rfl ?_); refine GL.cons (Step.load1 tb rfl (Op1.of rfl (by first | exact fun _ => rfl | exact fun h => h | exact fun h => bL h | exact fun h => bL (bL h) | exact fun h => bL (bL (bL h)))) rfl rfl (fun _ => (hb1.cells).cell (i := 0) rfl) rfl ?_)
  refine GL.cons (Step.fieldAddr tb rfl (Op1.of rfl (by first | exact fun _ => rfl | exact fun h => h | exact fun h => bL h | exact fun h => bL (bL h) | exact fun h => bL (bL (bL h)))) rfl rfl rfl rfl (fun _ => (hb2.cells).ptr) rfl ?_); refine GL.cons (Step.load1 tb rfl (Op1.of rfl (by first | exact fun _ => rfl | exact fun h => h | exact fun h => bL h | exact fun h => bL (bL h) | exact fun h => bL (bL (bL h)))) rfl rfl (fun _ => (hb2.cells).cell (i := 0) rfl) rfl ?_)
  refine GL.cons (Step.callF rfl rfl rfl c120 rfl (compare_ok x.1 y.1 w2) ?_)
  rintro _ w3 ⟨rfl, hw3⟩
  obtain rfl : w2 = w3 := hw3.symm
  refine rg ?_
  refine G.ret1 rfl rfl rfl rfl ?_
  exact ⟨rfl, hw⟩
end Go.Proofs.YtcngoccnfmhhnaaGreatDoor.Lab
end
section
open Go Go.Vg Go.RowKit Go.Proofs Go.Proofs.YtcngoccnfmhhnaaGreatDoor
namespace Go.Proofs.YtcngoccnfmhhnaaGreatDoor.Lab
open Go.Sort

abbrev bl (a b : List UInt8) : Bool := Op.bytesLess a b
theorem bl_cons (a b : UInt8) (x y : List UInt8) : Op.bytesLess (a :: x) (b :: y) = true ↔ a.toNat < b.toNat ∨ a = b ∧ Op.bytesLess x y = true := by
  simp only [Op.bytesLess, Bool.or_eq_true, Bool.and_eq_true, decide_eq_true_eq, beq_iff_eq, UInt8.lt_iff_toNat_lt]
theorem bl_irrefl : ∀ a : List UInt8, Op.bytesLess a a = false
  | [] => rfl
  | a :: x => by
    rw [Bool.eq_false_iff]
    intro h
    rcases (bl_cons _ _ _ _).1 h with h | ⟨_, h⟩
    · omega
    · rw [bl_irrefl x] at h; cases h
theorem bl_trans : ∀ {a b c : List UInt8}, Op.bytesLess a b = true → Op.bytesLess b c = true → Op.bytesLess a c = true
  | _, _, [], _, h => by unfold Op.bytesLess at h; cases h
  | [], _, _ :: _, _, _ => rfl
  | _ :: _, [], _, h, _ => by unfold Op.bytesLess at h; cases h
  | a :: x, b :: y, c :: z, h1, h2 => by
    rw [bl_cons] at h1 h2 ⊢
    rcases h1 with h1 | ⟨rfl, h1⟩
    · rcases h2 with h2 | ⟨rfl, h2⟩
      · exact .inl (by omega)
      · exact .inl h1
    · rcases h2 with h2 | ⟨rfl, h2⟩
      · exact .inl h2
      · exact .inr ⟨rfl, bl_trans h1 h2⟩
theorem bl_tri : ∀ (a b : List UInt8), Op.bytesLess a b = true ∨ a = b ∨ Op.bytesLess b a = true
  | [], [] => .inr (.inl rfl)
  | [], _ :: _ => .inl rfl
  | _ :: _, [] => .inr (.inr rfl)
  | a :: x, b :: y => by
    rw [bl_cons, bl_cons]
    rcases Nat.lt_trichotomy a.toNat b.toNat with h | h | h
    · exact .inl (.inl h)
    · obtain rfl := UInt8.toNat_inj.1 h
      rcases bl_tri x y with h | rfl | h
      · exact .inl (.inr ⟨rfl, h⟩)
      · exact .inr (.inl rfl)
      · exact .inr (.inr (.inr ⟨rfl, h⟩))
    · exact .inr (.inr (.inl h))
theorem bl_asymm {a b : List UInt8} (h : Op.bytesLess a b = true) : Op.bytesLess b a = false := by
  rw [Bool.eq_false_iff]
  intro h2
  have := bl_trans h h2
  rw [bl_irrefl] at this; cases this
theorem bl_not {a b : List UInt8} (h : Op.bytesLess a b = false) : b = a ∨ Op.bytesLess b a = true := by
  rcases bl_tri a b with h1 | h1 | h1
  · rw [h1] at h; cases h
  · exact .inl h1.symm
  · exact .inr h1
def cfL (x y : Lab) : Int := cmpB x.1 y.1
theorem ltL (x y : Lab) : ltOf cfL x y = Op.bytesLess x.1 y.1 := by
  unfold ltOf cfL cmpB
  cases Op.bytesLess x.1 y.1 with
  | true => rfl
  | false =>
    simp only [Bool.false_eq_true, if_false]
    split <;> rfl
theorem swoL : SWO (ltOf cfL) where
  irrefl x := by rw [ltL]; exact bl_irrefl _
  trans x y z h1 h2 := by rw [ltL] at *; exact bl_trans h1 h2
  ntrans x y z h1 h2 := by
    rw [ltL] at *
    rw [Bool.eq_false_iff]
    intro h
    rcases bl_not h1 with e | e
    · rw [e] at h2; rw [h] at h2; cases h2
    · have := bl_trans e h
      rw [this] at h2; cases h2
end Go.Proofs.YtcngoccnfmhhnaaGreatDoor.Lab
end
section
open Go Go.Vg Go.RowKit Go.Proofs Go.Proofs.YtcngoccnfmhhnaaGreatDoor
namespace Go.Proofs.YtcngoccnfmhhnaaGreatDoor.Lab
open Go.Sort

theorem isAggL : ∀ w, (isAgg (Tryz.sortL_ren.t 24)).run Tryz.prog w = .ok true w := Tryz.isAgg76
theorem sizeL : ∀ w, (Go.sizeOf (Tryz.sortL_ren.t 24)).run Tryz.prog w = .ok 2 w := Tryz.sizeOf76
theorem labC1 : ∀ x : Lab, ∀ v ∈ labC x, v.oneCell' = true := by
  intro x c hc
  simp only [labC, List.mem_cons, List.not_mem_nil, or_false] at hc
  rcases hc with rfl | rfl <;> rfl
theorem cmpLaysL (blk off size : Nat) (w : World) : CmpLays Tryz.prog 119 #[] labC 2 cfL blk off size w :=
  fun _ _ _ _ x y => Calls.mono (new1_ok x y _) fun _ _ ⟨v, he, hv, q, os, hw⟩ => ⟨by rw [he, hv]; rfl, q, os, hw⟩
def sortedL (ls : List Lab) : Prop := ls.Pairwise fun x y => Op.bytesLess y.1 x.1 = false
theorem sort_ok (s : Value) (ls : List Lab) (B : Nat) (w : World) (ho : LO w B s ls) (hn : ls.length ≤ 1000000) :
    Ret Tryz.prog 118 ⟨[s, .func (.func 119) #[] #[]]⟩ w fun r w' => r = .tuple #[] ∧ ∃ d : List Lab, d.Perm ls ∧ sortedL d ∧ LO w' B s d ∧ ∀ w0, Below B w0 w → Below B w0 w' := by
  rcases Owns.sort (enc := labC) (fun _ => rfl) ho with ⟨rfl, rfl⟩ | ⟨g, cap, rfl, hB, hg, hH, hre⟩
  · refine Calls.mono (AnyF.slices_SortFunc_none (P := Tryz.prog) (ρ := Tryz.sortL_ren) Tryz.sortL none 0 (.func (.func 119) #[] #[]) w) ?_
    rintro e w' ⟨rfl, rfl⟩
    exact ⟨_, rfl, rfl, [], List.Perm.refl _, List.Pairwise.nil, ho, fun _ h => h⟩
  · have eg : ∀ args w, (callFunc 119 args).run Tryz.prog w = .ok (.enter 119 args) w := enters_of Tryz.func119 (by kernel_rfl) rfl
    have hs := AnyQ.slices_SortFunc Tryz.sortL 2 isAggL sizeL labC (fun _ => rfl) labC1 cfL swoL 119 #[] g 0 cap ls.toArray w eg (cmpLaysL g 0 ls.toArray.size w) hH hg (by simp only [List.size_toArray]; omega)
    refine Calls.mono hs ?_
    rintro e w' ⟨rfl, d', n, os, ⟨hsz, -, hp⟩, hso, rfl⟩
    simp only [List.size_toArray] at hsz hp hso
    obtain ⟨h1, h2⟩ := hre d'.toList n os (by simpa using hsz)
    refine ⟨_, rfl, rfl, d'.toList, ?_, ?_, h1, h2⟩
    · have e1 : (d'.extract 0 ls.length).toList = d'.toList := by rw [← hsz]; simp
      have e2 : (ls.toArray.extract 0 ls.length).toList = ls := by simp
      rw [e1, e2] at hp; exact hp
    · refine List.pairwise_iff_getElem.2 fun i j hi hj hij => ?_
      have := hso i j (Nat.zero_le _) hij (by simpa [hsz] using hj)
      rw [ltL] at this
      have hi' : i < d'.size := by simpa using hi
      have hj' : j < d'.size := by simpa using hj
      rw [getElem!_pos _ i hi', getElem!_pos _ j hj'] at this
      simpa using this
end Go.Proofs.YtcngoccnfmhhnaaGreatDoor.Lab
end
section
open Go Go.Vg Go.RowKit Go.Proofs Go.Proofs.YtcngoccnfmhhnaaGreatDoor
namespace Go.Proofs.YtcngoccnfmhhnaaGreatDoor.Lab
open Go.Sort

def keptL (ls : List Lab) : List Lab := ls.filter fun x => !decide (x.2 = [])
def dupAt (d : List Lab) (i : Nat) : Prop := 1 ≤ i ∧ i < d.length ∧ (labAt d i).1 = (labAt d (i - 1)).1
theorem keptL_snoc (ls : List Lab) (x : Lab) : keptL (ls ++ [x]) = if x.2 = [] then keptL ls else keptL ls ++ [x] := by
  by_cases h : x.2 = [] <;> simp [keptL, h]
/-- what New hands back: a refusal, or the sorted labels -/
def newS (ls : List Lab) (e : Int) (out : List Lab) : Prop :=
  if ls.all okB = true then ∃ d, d.Perm (keptL ls) ∧ sortedL d ∧
    ((∃ i, dupAt d i) ∧ e = 13 ∧ out = [] ∨ (∀ i, ¬ dupAt d i) ∧ (if 64 < d.length then e = 15 ∧ out = [] else e = 0 ∧ out = d)) else e = 2 ∧ out = []

theorem new_ok (v : Value) (ls : List Lab) (w : World) (hv : Labs w v ls) (hn : ls.length ≤ 1000) (hz : ∀ x ∈ ls, LabSz x) (hT : Tabs w) :
    Ret Tryz.prog 88 ⟨[v]⟩ w fun r w' => ∃ s e out, r = .tuple ⟨[s, .int .i64 e]⟩ ∧ newS ls e out ∧ LO w' w.heap.size s out ∧ Ext w w' := by
  have hbd := Labs.bound hv
  refine ret_of_G Tryz.func88 rfl Tryz.ntmps88 rfl ?_
  simp only [argEnv]
  refine rg ?_
  refine GL.cons (Step.lenV tb rfl (Op1.of rfl (by first | exact fun _ => rfl | exact fun h => h | exact fun h => bL h | exact fun h => bL (bL h) | exact fun h => bL (bL (bL h)))) rfl (fun _ => ⟨_, hv⟩) rfl ?_)
  simp only [List.length_map]
  refine rg ?_
  refine (G.loop (fun x : Nat × Value => [(4, none, x.2), (8, none, v), (9, none, .int .i64 ls.length), (10, none, .int .i64 x.1)]) (fun x w' => Ext w w' ∧ x.1 ≤ ls.length ∧ (ls.take x.1).all okB = true ∧ LO w' w.heap.size x.2 (keptL (ls.take x.1))) (fun x => ls.length - x.1) (0, .slice none 0 0) (by repeat (first | exact Sub.nil _ | refine Sub.cons rfl ?_)) ⟨Ext.refl _, by simp, rfl, Owns.nil _ _ _ _⟩ ?_)
  rintro ⟨k, s⟩ w1 ⟨hx1, hk, hto, ho⟩
  simp only at hk hto ho ⊢
  have hv1 := hv.to hx1
  have hkl : (keptL (ls.take k)).length ≤ k := by
    have := List.length_filter_le (fun x : Lab => !decide (x.2 = [])) (ls.take k)
    rw [List.length_take] at this
    unfold keptL; omega
  refine rg ?_
  first | refine G.condD rfl (fun hc => ?_) (fun hc => ?_) | refine G.condN rfl (fun hc => ?_) (fun hc => ?_) | refine G.cond rfl (fun hc => ?_) (fun hc => ?_)
  · have hlt : k < ls.length := by omega
    obtain ⟨x, hmem, hget, htk, -, -⟩ := Labs.at hlt
    have hks : keptL (ls.take (k + 1)) = if x.2 = [] then keptL (ls.take k) else keptL (ls.take k) ++ [x] := by rw [htk, keptL_snoc]
    refine rg ?_
    refine GL.cons (Step.indexAddr tb k rfl (Op1.of rfl (by first | exact fun _ => rfl | exact fun h => h | exact fun h => bL h | exact fun h => bL (bL h) | exact fun h => bL (bL (bL h)))) (Op1.of rfl (by first | exact fun _ => rfl | exact fun h => h | exact fun h => bL h | exact fun h => bL (bL h) | exact fun h => bL (bL (bL h)))) rfl rfl (fun _ => ⟨_, hv1⟩) (fun _ => ⟨by omega, by simpa using hlt⟩) rfl ?_)
    refine GL.cons (Step.loadA tb rfl (Op1.of rfl (by first | exact fun _ => rfl | exact fun h => h | exact fun h => bL h | exact fun h => bL (bL h) | exact fun h => bL (bL (bL h)))) rfl rfl rfl (fun _ => hv1.elem hget) (fun _ => rfl) rfl ?_)
    refine GL.cons (Step.alloc tb rfl rfl rfl rfl ?_)
    intro w2 hb2 hs2 hx2
    refine GL.cons (Step.store0 tb rfl (Op1.of rfl (by first | exact fun _ => rfl | exact fun h => h | exact fun h => bL h | exact fun h => bL (bL h) | exact fun h => bL (bL (bL h)))) (Op1.of rfl (by first | exact fun _ => rfl | exact fun h => h | exact fun h => bL h | exact fun h => bL (bL h) | exact fun h => bL (bL (bL h)))) rfl (rfl) rfl (labC1 x) hb2 rfl ?_)
    intro w3 hb3 hw3
    have hx3 : Ext w1 w3 := Below.wr hx2 hw3 (Nat.le_refl _)
    refine rg ?_
    refine GL.cons (Step.loadA tb rfl (Op1.of rfl (by first | exact fun _ => rfl | exact fun h => h | exact fun h => bL h | exact fun h => bL (bL h) | exact fun h => bL (bL (bL h)))) rfl rfl rfl (fun _ => hb3.cells) (fun _ => rfl) rfl ?_)
    refine GL.cons (Step.callX rfl rfl (by repeat (first | exact OpL.nil | refine OpL.cons (Op1.of rfl (by first | exact fun _ => rfl | exact fun h => h | exact fun h => bL h | exact fun h => bL (bL h) | exact fun h => bL (bL (bL h)))) ?_)) c117 rfl (fun hc => right_ok x w3 (hz _ hmem) (hT.to (hx1.trans hx3))) ?_)
    intro w4 hx4
    have hb4 := hb3.to hx4
    have hx14 := (hx1.trans hx3).trans hx4
    have ho4 := ho.to (hx3.trans hx4)
    refine rg ?_
    first | refine G.condD rfl (fun hc => ?_) (fun hc => ?_) | refine G.condN rfl (fun hc => ?_) (fun hc => ?_) | refine G.cond rfl (fun hc => ?_) (fun hc => ?_)
    · refine rg ?_
      refine G.ret2 rfl rfl rfl rfl rfl ?_
      refine ⟨_, 2, [], rfl, ?_, Owns.nil _ _ _ _, hx14⟩
      unfold newS; rw [if_neg]
      · exact ⟨rfl, rfl⟩
      · intro h
        have := List.all_eq_true.1 h x hmem
        rw [this] at hc; cases hc
    · have hok : okB x = true := by simpa using hc
      refine rg ?_
      refine GL.cons (Step.fieldAddr tb rfl (Op1.of rfl (by first | exact fun _ => rfl | exact fun h => h | exact fun h => bL h | exact fun h => bL (bL h) | exact fun h => bL (bL (bL h)))) rfl rfl rfl rfl (fun _ => (hb4.cells).ptr) rfl ?_); refine GL.cons (Step.load1 tb rfl (Op1.of rfl (by first | exact fun _ => rfl | exact fun h => h | exact fun h => bL h | exact fun h => bL (bL h) | exact fun h => bL (bL (bL h)))) rfl rfl (fun _ => (hb4.cells).cell (i := 1) rfl) rfl ?_)
      refine rg ?_
      first | refine G.condD rfl (fun hc => ?_) (fun hc => ?_) | refine G.condN rfl (fun hc => ?_) (fun hc => ?_) | refine G.cond rfl (fun hc => ?_) (fun hc => ?_)
      · rw [if_neg (by simpa using hc)] at hks
        refine rg ?_
        refine GL.cons (Step.loadA tb rfl (Op1.of rfl (by first | exact fun _ => rfl | exact fun h => h | exact fun h => bL h | exact fun h => bL (bL h) | exact fun h => bL (bL (bL h)))) rfl rfl rfl (fun _ => hb4.cells) (fun _ => rfl) rfl ?_)
        refine GL.cons (Step.buildSlice tb ([labC x]) rfl rfl rfl rfl rfl rfl (by rfl) rfl (by rfl) (by rfl) (by rfl) (labLen [x]) rfl ?_)
        intro s5 w5 ho5 hs5 hx5
        refine GL.cons (Step.append tb rfl (Op1.of rfl (by first | exact fun _ => rfl | exact fun h => h | exact fun h => bL h | exact fun h => bL (bL h) | exact fun h => bL (bL (bL h)))) (Op1.of rfl (by first | exact fun _ => rfl | exact fun h => h | exact fun h => bL h | exact fun h => bL (bL h) | exact fun h => bL (bL (bL h)))) rfl rfl rfl (by rfl) (ho4.to hx5) (ho5.sli) (lab1 [x]) (by simp only [List.length_map, List.length_append, List.length_cons, List.length_nil, List.length_take, List.length_drop]; omega) (by simp only [List.length_map, List.length_append, List.length_cons, List.length_nil, List.length_take, List.length_drop]; omega) (by have := (hx14.trans hx5).size; omega) rfl ?_)
        intro s6 w6 ho6 hg6
        have hx6 : Ext w w6 := hg6.below _ (hx14.trans hx5)
        refine rg ?_
        refine GL.cons (Step.arith rfl (Op1.of rfl (by first | exact fun _ => rfl | exact fun h => h | exact fun h => bL h | exact fun h => bL (bL h) | exact fun h => bL (bL (bL h)))) (Op1.of rfl (by first | exact fun _ => rfl | exact fun h => h | exact fun h => bL h | exact fun h => bL (bL h) | exact fun h => bL (bL (bL h)))) (wrap_i64 (by omega) (by omega)) rfl ?_)
        refine rg ?_
        refine G.lp (x := (k, s)) (k + 1, s6) (by repeat (first | exact Sub.nil _ | refine Sub.cons rfl ?_)) ⟨hx6, by simp only; omega, ?_, ?_⟩ (by simp only; omega)
        · simp only [htk, List.all_append, hto, List.all_cons, List.all_nil, hok, Bool.and_true]
        · simp only [hks, LO, List.map_append]; exact ho6
      · rw [if_pos (by simpa using hc)] at hks
        refine rg ?_
        refine GL.cons (Step.arith rfl (Op1.of rfl (by first | exact fun _ => rfl | exact fun h => h | exact fun h => bL h | exact fun h => bL (bL h) | exact fun h => bL (bL (bL h)))) (Op1.of rfl (by first | exact fun _ => rfl | exact fun h => h | exact fun h => bL h | exact fun h => bL (bL h) | exact fun h => bL (bL (bL h)))) (wrap_i64 (by omega) (by omega)) rfl ?_)
        refine rg ?_
        refine G.lp (x := (k, s)) (k + 1, s) (by repeat (first | exact Sub.nil _ | refine Sub.cons rfl ?_)) ⟨hx14, by simp only; omega, ?_, ?_⟩ (by simp only; omega)
        · simp only [htk, List.all_append, hto, List.all_cons, List.all_nil, hok, Bool.and_true]
        · simp only [hks]; exact ho4
  · have hke : k = ls.length := by omega
    subst hke
    rw [List.take_length] at hto ho hkl
    refine rg ?_
    refine GL.cons (Step.callF rfl rfl rfl c118 rfl (sort_ok s (keptL ls) w.heap.size w1 ho (by omega)) ?_)
    rintro _ w2 ⟨rfl, d, hperm, hsort, ho2, hbw⟩
    have hx2 : Ext w w2 := hbw _ hx1
    have hdl : d.length = (keptL ls).length := hperm.length_eq
    have hS : ∀ e out, ((∃ i, dupAt d i) ∧ e = 13 ∧ out = [] ∨ (∀ i, ¬ dupAt d i) ∧ (if 64 < d.length then e = 15 ∧ out = [] else e = 0 ∧ out = d)) → newS ls e out := by
      intro e out h
      unfold newS; rw [if_pos hto]; exact ⟨d, hperm, hsort, h⟩
    refine rg ?_
    refine (G.loop (fun i : Nat => [(4, none, s), (7, none, .int .i64 (i + 1 : Nat))]) (fun i w' => Ext w w' ∧ LO w' w.heap.size s d ∧ (i = 0 ∨ i < d.length) ∧ ∀ j, j ≤ i → ¬ dupAt d j) (fun i => d.length - i) 0 (by repeat (first | exact Sub.nil _ | refine Sub.cons rfl ?_)) ⟨hx2, ho2, .inl rfl, fun j hj h => by obtain ⟨h1, _⟩ := h; omega⟩ ?_)
    rintro i w3 ⟨hx3, ho3, hi, hto3⟩
    refine rg ?_
    refine GL.cons (Step.lenV tb rfl (Op1.of rfl (by first | exact fun _ => rfl | exact fun h => h | exact fun h => bL h | exact fun h => bL (bL h) | exact fun h => bL (bL (bL h)))) rfl (fun _ => ⟨_, ho3.sli⟩) rfl ?_)
    simp only [List.length_map]
    refine rg ?_
    first | refine G.condD rfl (fun hc => ?_) (fun hc => ?_) | refine G.condN rfl (fun hc => ?_) (fun hc => ?_) | refine G.cond rfl (fun hc => ?_) (fun hc => ?_)
    · have hlt : i + 1 < d.length := by omega
      have hlt0 : i < d.length := by omega
      refine rg ?_
      refine G.regionM [(0, true), (1, true), (2, true), (3, true), (4, true), (5, true), (6, true), (7, true), (8, true), (9, true), (10, true), (11, true)] (Ext w3) (by kernel_rfl) (by kernel_rfl) rfl mixed (Ext.drew w3) rfl ?_
      have ho4 := fun w' (hS : Ext w3 w') => (ho3.to hS).sli
      have g1 := Labs.getD hlt
      have g0 := Labs.getD hlt0
      have hcas : ((i + 1 : Nat) : Int) - 1 = (i : Int) := by omega
      have hdb : d.length ≤ 1000 := by omega
      repeat (first
    | refine GM.nil ?_
    | refine GM.read (fun w' hS => Step.move rfl (Op1.of rfl (by first | exact fun _ => rfl | exact fun h => h | exact fun h => bL h | exact fun h => bL (bL h) | exact fun h => bL (bL (bL h)))) rfl ⟨rfl, rfl⟩) rfl rfl ?_
    | refine GM.read (fun w' hS => Step.assign rfl (Op1.of rfl (by first | exact fun _ => rfl | exact fun h => h | exact fun h => bL h | exact fun h => bL (bL h) | exact fun h => bL (bL (bL h)))) rfl ⟨rfl, rfl⟩) rfl rfl ?_
    | refine GM.read (fun w' hS => Step.bin rfl (Op1.of rfl (by first | exact fun _ => rfl | exact fun h => h | exact fun h => bL h | exact fun h => bL (bL h) | exact fun h => bL (bL (bL h)))) (Op1.of rfl (by first | exact fun _ => rfl | exact fun h => h | exact fun h => bL h | exact fun h => bL (bL h) | exact fun h => bL (bL (bL h)))) rfl rfl ⟨rfl, rfl⟩) rfl rfl ?_
    | refine GM.read (fun w' hS => Step.and rfl (Op1.of rfl (by first | exact fun _ => rfl | exact fun h => h | exact fun h => bL h | exact fun h => bL (bL h) | exact fun h => bL (bL (bL h)))) rfl (by first | exact fun _ _ => rfl | exact fun _ h => h | exact fun _ h => bNot h | exact fun h k => bAnd h k | exact fun h k => bAnd h (bNot k)) rfl ⟨rfl, rfl⟩) rfl rfl ?_
    | refine GM.read (fun w' hS => Step.or rfl (Op1.of rfl (by first | exact fun _ => rfl | exact fun h => h | exact fun h => bL h | exact fun h => bL (bL h) | exact fun h => bL (bL (bL h)))) rfl (by first | exact fun _ _ => rfl | exact fun _ h => h | exact fun _ h => bNot h | exact fun h k => bAnd h k | exact fun h k => bAnd h (bNot k)) rfl ⟨rfl, rfl⟩) rfl rfl ?_
    | refine GM.read (fun w' hS => Step.lenS tb rfl (Op1.of rfl (by first | exact fun _ => rfl | exact fun h => h | exact fun h => bL h | exact fun h => bL (bL h) | exact fun h => bL (bL (bL h)))) rfl rfl ⟨rfl, rfl⟩) rfl rfl ?_
    | refine GM.read (fun w' hS => Step.un rfl (Op1.of rfl (by first | exact fun _ => rfl | exact fun h => h | exact fun h => bL h | exact fun h => bL (bL h) | exact fun h => bL (bL (bL h)))) rfl rfl ⟨rfl, rfl⟩) rfl rfl ?_
    | refine GM.read (fun w' hS => Step.extract rfl (Op1.of rfl (by first | exact fun _ => rfl | exact fun h => h | exact fun h => bL h | exact fun h => bL (bL h) | exact fun h => bL (bL (bL h)))) rfl rfl ⟨rfl, rfl⟩) rfl rfl ?_)
      refine GM.read (fun w' hS => Step.indexAddr tb (i + 1) rfl (Op1.of rfl (by first | exact fun _ => rfl | exact fun h => h | exact fun h => bL h | exact fun h => bL (bL h) | exact fun h => bL (bL (bL h)))) (Op1.of rfl (by first | exact fun _ => rfl | exact fun h => h | exact fun h => bL h | exact fun h => bL (bL h) | exact fun h => bL (bL (bL h)))) rfl rfl (fun hc => ⟨_, ho4 w' hS⟩) (fun hc => ⟨rfl, by rw [List.length_map]; exact hlt⟩) rfl ⟨rfl, rfl⟩) rfl rfl ?_
      refine GM.read (fun w' hS => Step.fieldAddr tb rfl (Op1.of rfl (by first | exact fun _ => rfl | exact fun h => h | exact fun h => bL h | exact fun h => bL (bL h) | exact fun h => bL (bL (bL h)))) rfl rfl rfl rfl (fun hc => ((ho4 w' hS).elem g1).ptr) rfl ⟨rfl, rfl⟩) rfl rfl ?_; refine GM.read (fun w' hS => Step.load1 tb rfl (Op1.of rfl (by first | exact fun _ => rfl | exact fun h => h | exact fun h => bL h | exact fun h => bL (bL h) | exact fun h => bL (bL (bL h)))) rfl rfl (fun hc => ((ho4 w' hS).elem g1).cell (i := 0) rfl) rfl ⟨rfl, rfl⟩) rfl rfl ?_
      repeat (first
    | refine GM.nil ?_
    | refine GM.read (fun w' hS => Step.move rfl (Op1.of rfl (by first | exact fun _ => rfl | exact fun h => h | exact fun h => bL h | exact fun h => bL (bL h) | exact fun h => bL (bL (bL h)))) rfl ⟨rfl, rfl⟩) rfl rfl ?_
    | refine GM.read (fun w' hS => Step.assign rfl (Op1.of rfl (by first | exact fun _ => rfl | exact fun h => h | exact fun h => bL h | exact fun h => bL (bL h) | exact fun h => bL (bL (bL h)))) rfl ⟨rfl, rfl⟩) rfl rfl ?_
    | refine GM.read (fun w' hS => Step.bin rfl (Op1.of rfl (by first | exact fun _ => rfl | exact fun h => h | exact fun h => bL h | exact fun h => bL (bL h) | exact fun h => bL (bL (bL h)))) (Op1.of rfl (by first | exact fun _ => rfl | exact fun h => h | exact fun h => bL h | exact fun h => bL (bL h) | exact fun h => bL (bL (bL h)))) rfl rfl ⟨rfl, rfl⟩) rfl rfl ?_
    | refine GM.read (fun w' hS => Step.and rfl (Op1.of rfl (by first | exact fun _ => rfl | exact fun h => h | exact fun h => bL h | exact fun h => bL (bL h) | exact fun h => bL (bL (bL h)))) rfl (by first | exact fun _ _ => rfl | exact fun _ h => h | exact fun _ h => bNot h | exact fun h k => bAnd h k | exact fun h k => bAnd h (bNot k)) rfl ⟨rfl, rfl⟩) rfl rfl ?_
    | refine GM.read (fun w' hS => Step.or rfl (Op1.of rfl (by first | exact fun _ => rfl | exact fun h => h | exact fun h => bL h | exact fun h => bL (bL h) | exact fun h => bL (bL (bL h)))) rfl (by first | exact fun _ _ => rfl | exact fun _ h => h | exact fun _ h => bNot h | exact fun h k => bAnd h k | exact fun h k => bAnd h (bNot k)) rfl ⟨rfl, rfl⟩) rfl rfl ?_
    | refine GM.read (fun w' hS => Step.lenS tb rfl (Op1.of rfl (by first | exact fun _ => rfl | exact fun h => h | exact fun h => bL h | exact fun h => bL (bL h) | exact fun h => bL (bL (bL h)))) rfl rfl ⟨rfl, rfl⟩) rfl rfl ?_
    | refine GM.read (fun w' hS => Step.un rfl (Op1.of rfl (by first | exact fun _ => rfl | exact fun h => h | exact fun h => bL h | exact fun h => bL (bL h) | exact fun h => bL (bL (bL h)))) rfl rfl ⟨rfl, rfl⟩) rfl rfl ?_
    | refine GM.read (fun w' hS => Step.extract rfl (Op1.of rfl (by first | exact fun _ => rfl | exact fun h => h | exact fun h => bL h | exact fun h => bL (bL h) | exact fun h => bL (bL (bL h)))) rfl rfl ⟨rfl, rfl⟩) rfl rfl ?_)
      refine GM.read (fun w' hS => Step.arith rfl (Op1.of rfl (by first | exact fun _ => rfl | exact fun h => h | exact fun h => bL h | exact fun h => bL (bL h) | exact fun h => bL (bL (bL h)))) (Op1.of rfl (by first | exact fun _ => rfl | exact fun h => h | exact fun h => bL h | exact fun h => bL (bL h) | exact fun h => bL (bL (bL h)))) (wrap_i64 (by omega) (by omega)) rfl ⟨rfl, rfl⟩) rfl rfl ?_
      rw [hcas]
      refine GM.read (fun w' hS => Step.indexAddr tb i rfl (Op1.of rfl (by first | exact fun _ => rfl | exact fun h => h | exact fun h => bL h | exact fun h => bL (bL h) | exact fun h => bL (bL (bL h)))) (Op1.of rfl (by first | exact fun _ => rfl | exact fun h => h | exact fun h => bL h | exact fun h => bL (bL h) | exact fun h => bL (bL (bL h)))) rfl rfl (fun hc => ⟨_, ho4 w' hS⟩) (fun hc => ⟨rfl, by rw [List.length_map]; exact hlt0⟩) rfl ⟨rfl, rfl⟩) rfl rfl ?_
      refine GM.read (fun w' hS => Step.fieldAddr tb rfl (Op1.of rfl (by first | exact fun _ => rfl | exact fun h => h | exact fun h => bL h | exact fun h => bL (bL h) | exact fun h => bL (bL (bL h)))) rfl rfl rfl rfl (fun hc => ((ho4 w' hS).elem g0).ptr) rfl ⟨rfl, rfl⟩) rfl rfl ?_; refine GM.read (fun w' hS => Step.load1 tb rfl (Op1.of rfl (by first | exact fun _ => rfl | exact fun h => h | exact fun h => bL h | exact fun h => bL (bL h) | exact fun h => bL (bL (bL h)))) rfl rfl (fun hc => ((ho4 w' hS).elem g0).cell (i := 0) rfl) rfl ⟨rfl, rfl⟩) rfl rfl ?_
      repeat (first
    | refine GM.nil ?_
    | refine GM.read (fun w' hS => Step.move rfl (Op1.of rfl (by first | exact fun _ => rfl | exact fun h => h | exact fun h => bL h | exact fun h => bL (bL h) | exact fun h => bL (bL (bL h)))) rfl ⟨rfl, rfl⟩) rfl rfl ?_
    | refine GM.read (fun w' hS => Step.assign rfl (Op1.of rfl (by first | exact fun _ => rfl | exact fun h => h | exact fun h => bL h | exact fun h => bL (bL h) | exact fun h => bL (bL (bL h)))) rfl ⟨rfl, rfl⟩) rfl rfl ?_
    | refine GM.read (fun w' hS => Step.bin rfl (Op1.of rfl (by first | exact fun _ => rfl | exact fun h => h | exact fun h => bL h | exact fun h => bL (bL h) | exact fun h => bL (bL (bL h)))) (Op1.of rfl (by first | exact fun _ => rfl | exact fun h => h | exact fun h => bL h | exact fun h => bL (bL h) | exact fun h => bL (bL (bL h)))) rfl rfl ⟨rfl, rfl⟩) rfl rfl ?_
    | refine GM.read (fun w' hS => Step.and rfl (Op1.of rfl (by first | exact fun _ => rfl | exact fun h => h | exact fun h => bL h | exact fun h => bL (bL h) | exact fun h => bL (bL (bL h)))) rfl (by first | exact fun _ _ => rfl | exact fun _ h => h | exact fun _ h => bNot h | exact fun h k => bAnd h k | exact fun h k => bAnd h (bNot k)) rfl ⟨rfl, rfl⟩) rfl rfl ?_
    | refine GM.read (fun w' hS => Step.or rfl (Op1.of rfl (by first | exact fun _ => rfl | exact fun h => h | exact fun h => bL h | exact fun h => bL (bL h) | exact fun h => bL (bL (bL h)))) rfl (by first | exact fun _ _ => rfl | exact fun _ h => h | exact fun _ h => bNot h | exact fun h k => bAnd h k | exact fun h k => bAnd h (bNot k)) rfl ⟨rfl, rfl⟩) rfl rfl ?_
    | refine GM.read (fun w' hS => Step.lenS tb rfl (Op1.of rfl (by first | exact fun _ => rfl | exact fun h => h | exact fun h => bL h | exact fun h => bL (bL h) | exact fun h => bL (bL (bL h)))) rfl rfl ⟨rfl, rfl⟩) rfl rfl ?_
    | refine GM.read (fun w' hS => Step.un rfl (Op1.of rfl (by first | exact fun _ => rfl | exact fun h => h | exact fun h => bL h | exact fun h => bL (bL h) | exact fun h => bL (bL (bL h)))) rfl rfl ⟨rfl, rfl⟩) rfl rfl ?_
    | refine GM.read (fun w' hS => Step.extract rfl (Op1.of rfl (by first | exact fun _ => rfl | exact fun h => h | exact fun h => bL h | exact fun h => bL (bL h) | exact fun h => bL (bL (bL h)))) rfl rfl ⟨rfl, rfl⟩) rfl rfl ?_)
      first | refine G.condD rfl (fun hc => ?_) (fun hc => ?_) | refine G.condN rfl (fun hc => ?_) (fun hc => ?_) | refine G.cond rfl (fun hc => ?_) (fun hc => ?_)
      · refine rg ?_
        refine G.ret2 rfl rfl rfl rfl rfl ?_
        exact ⟨_, 13, [], rfl, hS _ _ (.inl ⟨⟨i + 1, by omega, hlt, hc⟩, rfl, rfl⟩), Owns.nil _ _ _ _, hx3.drew'⟩
      · refine rg ?_
        refine GL.cons (Step.arith rfl (Op1.of rfl (by first | exact fun _ => rfl | exact fun h => h | exact fun h => bL h | exact fun h => bL (bL h) | exact fun h => bL (bL (bL h)))) (Op1.of rfl (by first | exact fun _ => rfl | exact fun h => h | exact fun h => bL h | exact fun h => bL (bL h) | exact fun h => bL (bL (bL h)))) (wrap_i64 (by omega) (by omega)) rfl ?_)
        refine rg ?_
        refine G.lp (i + 1) (by repeat (first | exact Sub.nil _ | refine Sub.cons rfl ?_)) ⟨hx3.drew', ho3.to (Ext.drew w3), .inr hlt, fun j hj h => ?_⟩ (by omega)
        by_cases hji : j ≤ i
        · exact hto3 j hji h
        · obtain rfl : j = i + 1 := by omega
          exact hc h.2.2
    · have hno : ∀ j, ¬ dupAt d j := fun j h => by
        by_cases hj : j ≤ i
        · exact hto3 j hj h
        · obtain ⟨_, h2, _⟩ := h; omega
      refine rg ?_
      refine GL.cons (Step.lenV tb rfl (Op1.of rfl (by first | exact fun _ => rfl | exact fun h => h | exact fun h => bL h | exact fun h => bL (bL h) | exact fun h => bL (bL (bL h)))) rfl (fun _ => ⟨_, ho3.sli⟩) rfl ?_)
      simp only [List.length_map]
      refine rg ?_
      first | refine G.condD rfl (fun hc => ?_) (fun hc => ?_) | refine G.condN rfl (fun hc => ?_) (fun hc => ?_) | refine G.cond rfl (fun hc => ?_) (fun hc => ?_)
      · refine rg ?_
        refine G.ret2 rfl rfl rfl rfl rfl ?_
        exact ⟨_, 15, [], rfl, hS _ _ (.inr ⟨hno, by rw [if_pos (by omega)]; exact ⟨rfl, rfl⟩⟩), Owns.nil _ _ _ _, hx3⟩
      · refine rg ?_
        refine G.ret2 rfl rfl rfl rfl rfl ?_
        exact ⟨_, 0, d, rfl, hS _ _ (.inr ⟨hno, by rw [if_neg (by omega)]; exact ⟨rfl, rfl⟩⟩), ho3, hx3⟩
end Go.Proofs.YtcngoccnfmhhnaaGreatDoor.Lab
end
section
open Go Go.Vg Go.RowKit Go.Proofs Go.Proofs.YtcngoccnfmhhnaaGreatDoor
namespace Go.Proofs.YtcngoccnfmhhnaaGreatDoor
open Go.Ex

/-- where a text's first line end stands -/
abbrev nlI (s : List UInt8) : Int := Lib.indexByte s 10
theorem nlI_ge (s : List UInt8) : -1 ≤ nlI s := Lib.indexByte_ge s 10
theorem nlI_lt {s : List UInt8} {i : Nat} (h : nlI s = i) : i < s.length := (List.getElem?_eq_some_iff.1 (Lib.indexByte_some h).1).1
def cutV (s : List UInt8) : Value := if 0 ≤ nlI s then .tuple ⟨[S (s.take (nlI s).toNat), S (s.drop ((nlI s).toNat + 1)), .bool true]⟩ else .tuple ⟨[S s, S [], .bool false]⟩
theorem ixn_ok (s : List UInt8) (w : World) : Ret Tryz.prog 114 ⟨[S s, S [10]]⟩ w fun r w' => r = .int .i64 (nlI s) ∧ w' = w :=
  Calls.mono (Any.stringslite_Index_one Tryz.lays219 ⟨⟨s⟩⟩ 10 w) fun _ _ ⟨he, hw⟩ => ⟨_, he, rfl, hw⟩
theorem cutL_ok (s : List UInt8) (w : World) (hs : s.length ≤ 1000000000) : Ret Tryz.prog 86 ⟨[S s, S [10]]⟩ w fun r w' => r = cutV s ∧ Ext w w' := by
  refine ret_of_G Tryz.func86 rfl Tryz.ntmps86 rfl ?_
  simp only [argEnv]
  refine rn ?_
  have hge := nlI_ge s
  have hlt : ∀ i : Nat, nlI s = i → i < s.length := fun i h => nlI_lt h
  have hix := ixn_ok s w
  have hcv : cutV s = if 0 ≤ nlI s then .tuple ⟨[S (s.take (nlI s).toNat), S (s.drop ((nlI s).toNat + 1)), .bool true]⟩ else .tuple ⟨[S s, S [], .bool false]⟩ := rfl
  generalize nlI s = n at hge hlt hix hcv
  rw [hcv]
  refine sCall c114 (hix) ?_
  rintro _ W ⟨rfl, hW⟩
  obtain rfl : w = W := hW.symm
  refine rn ?_
  first | refine G.condD rfl (fun hc => ?_) (fun hc => ?_) | refine G.condN rfl (fun hc => ?_) (fun hc => ?_) | refine G.cond rfl (fun hc => ?_) (fun hc => ?_)
  · obtain ⟨i, rfl⟩ : ∃ i : Nat, n = i := ⟨n.toNat, by omega⟩
    have hi := hlt i rfl
    rw [if_pos hc]
    refine rn ?_
    refine G.regionM [(0, true), (1, true), (2, true), (3, true), (4, true), (5, true), (6, true), (7, true), (8, true), (9, true), (10, true), (11, true)] (Ext w) (by kernel_rfl) (by kernel_rfl) rfl mixed (Ext.drew w) rfl ?_
    refine rd ?_
    refine GM.read (fun w' hS => Step.sliceSh tb i rfl (Op1.of rfl (by first | exact fun _ => rfl | exact fun h => h | exact fun h => bL h | exact fun h => bL (bL h) | exact fun h => bL (bL (bL h)))) (Op1.of rfl (by first | exact fun _ => rfl | exact fun h => h | exact fun h => bL h | exact fun h => bL (bL h) | exact fun h => bL (bL (bL h)))) rfl (fun _ => ⟨rfl, by omega⟩) rfl ⟨rfl, rfl⟩) rfl rfl ?_
    refine rd ?_
    refine dAd tb (r := ((i + 1 : Nat) : Int)) ?_ (hp := by show IntKind.i64.wrap _ = _; rw [wrap_i64 (by simp; omega) (by simp; omega)]; simp)
    refine rd ?_
    refine GM.read (fun w' hS => Step.sliceSl tb (i + 1) rfl (Op1.of rfl (by first | exact fun _ => rfl | exact fun h => h | exact fun h => bL h | exact fun h => bL (bL h) | exact fun h => bL (bL (bL h)))) (Op1.of rfl (by first | exact fun _ => rfl | exact fun h => h | exact fun h => bL h | exact fun h => bL (bL h) | exact fun h => bL (bL (bL h)))) rfl (fun _ => ⟨rfl, by omega⟩) rfl ⟨rfl, rfl⟩) rfl rfl ?_
    refine rd ?_
    refine GM.nil ?_
    refine rn ?_
    refine G.ret3 rfl rfl rfl rfl rfl rfl ?_
    exact ⟨by simp, Ext.drew w⟩
  · rw [if_neg hc]
    refine rn ?_
    refine G.ret3 rfl rfl rfl rfl rfl rfl ?_
    exact ⟨rfl, Ext.refl _⟩
theorem cut_ok (s : List UInt8) (w : World) (hs : s.length ≤ 1000000000) : Ret Tryz.prog 48 ⟨[S s, S [10]]⟩ w fun r w' => r = cutV s ∧ Ext w w' := by
  refine ret_of_G Tryz.func48 rfl Tryz.ntmps48 rfl ?_
  simp only [argEnv]
  refine rn ?_
  have hct := cutL_ok s w hs
  unfold cutV at hct ⊢
  refine sCall c86 (hct) ?_
  rintro _ W ⟨rfl, hx⟩
  by_cases h0 : 0 ≤ nlI s
  · rw [if_pos h0]
    refine rn ?_
    refine G.ret3 rfl rfl rfl rfl rfl rfl ?_
    exact ⟨rfl, hx⟩
  · rw [if_neg h0]
    refine rn ?_
    refine G.ret3 rfl rfl rfl rfl rfl rfl ?_
    exact ⟨rfl, hx⟩
end Go.Proofs.YtcngoccnfmhhnaaGreatDoor
end
section
open Go Go.Vg Go.RowKit Go.Proofs Go.Proofs.YtcngoccnfmhhnaaGreatDoor
namespace Go.Proofs.YtcngoccnfmhhnaaGreatDoor
open Go.Ex

/-- a line that is taken, with its labels as they lie in the set -/
def LineIs (s : List UInt8) (L : LineS) (out : List Lab.Lab) : Prop := sampleP Num.intP s = some L ∧ (∀ x ∈ L.labs, x.1 ≠ nameB) ∧ Lab.newS ((nameB, L.name) :: L.labs) 0 out
/-- a line that is refused -/
def LineNo (s : List UInt8) : Prop := sampleP Num.intP s = none ∨ ∃ L, sampleP Num.intP s = some L ∧ ((∃ x ∈ L.labs, x.1 = nameB) ∨ (∀ x ∈ L.labs, x.1 ≠ nameB) ∧ ∃ e out, e ≠ 0 ∧ Lab.newS ((nameB, L.name) :: L.labs) e out)
/-- what whole gives -/
def WholeS (ok : LineS → List Lab.Lab → Prop) (no : Prop) (w : World) (r : Value) (w' : World) : Prop :=
  Ext w w' ∧ ((∃ L v out, ok L out ∧ r = .tuple ⟨[.agg ⟨linC v L.val L.time⟩, .int .i64 0, .int .i64 0]⟩ ∧ Lab.LO w' w.heap.size v out) ∨
    (no ∧ ∃ a e : Int, e ≠ 0 ∧ r = .tuple ⟨[.agg ⟨linZ⟩, .int .i64 a, .int .i64 e]⟩))
theorem linZ_one : ∀ y ∈ linZ, y.oneCell' = true := by
  intro y hy
  simp only [linZ, List.mem_cons, List.not_mem_nil, or_false] at hy
  rcases hy with rfl | rfl | rfl | rfl <;> rfl
set_option maxHeartbeats 4000000 in
theorem whole_ok (w : World) (s : List UInt8) (hs : s.length ≤ 1000000000) (hT : Tabs w) (hn : ∀ L, sampleP Num.intP s = some L → L.labs.length ≤ 999) : Ret Tryz.prog 49 ⟨[S s]⟩ w (WholeS (LineIs s) (LineNo s) w) := by
  refine ret_of_G Tryz.func49 rfl Tryz.ntmps49 rfl ?_
  simp only [argEnv]
  refine rn ?_
  refine sAl tb (fun W1 hb1 hs1 hx1 => ?_)
  refine rn ?_
  refine sCall c87 (given_ok W1 s hs (hT.to hx1)) ?_
  rintro _ W2 ⟨hx2, ⟨L, v, hL, rfl, ho2⟩ | ⟨hL, a, e, he, rfl⟩⟩
  rotate_left
  · have hb2 := hb1.to hx2
    have hx02 := hx1.trans hx2
    refine rn ?_
    refine sAl tb (fun W3 hb3 hs3 hx3 => ?_)
    refine rn ?_
    refine sAl tb (fun W4 hb4 hs4 hx4 => ?_)
    refine rn ?_
    refine sSt tb (fun W5 hb5 hw5 => ?_) (vs := linZ) (hv := rfl) (h1 := linZ_one) (hb := hb3.to hx4)
    refine rn ?_
    refine sSt tb (fun W6 hb6 hw6 => ?_) (vs := [.int .i64 a, .int .i64 e]) (hv := rfl) (hb := hb4.wr hw5 (by omega))
    have hz2 := hx2.size
    have hb6' : Bx W6 w.heap.size linZ := (((hb2.to hx3).to hx4).wr hw5 (by omega)).wr hw6 (by omega)
    have hx6 : Ext w W6 := (((hx02.trans hx3).trans hx4).wr hw5 (by omega)).wr hw6 (by omega)
    clear hb1 hb2 hb3 hb4 hb5
    refine rn ?_
    refine G.cond rfl (fun hc => ?_) (fun hc => ?_)
    · have hbd := hb6.to (Ext.drew W6)
      have hbz := hb6'.to (Ext.drew W6)
      have hx7 := hx6.trans (Ext.drew W6)
      refine rn ?_
      refine G.regionM [(0, true), (1, true), (2, true), (3, true), (4, true), (5, false), (6, true), (7, true)] (fun w' => Bx w' W3.heap.size [.int .i64 a, .int .i64 e]) (by kernel_rfl) (by kernel_rfl) rfl mixed (hbd) rfl ?_
      refine rd ?_
      refine GM.read (fun w' hS => Step.build tb rfl rfl rfl rfl rfl rfl rfl rfl rfl ⟨rfl, rfl⟩) rfl rfl ?_
      refine rd ?_
      refine GM.read (fun w' hS => Step.load1 tb rfl (Op1.of rfl (by first | exact fun _ => rfl | exact fun h => h | exact fun h => bL h | exact fun h => bL (bL h) | exact fun h => bL (bL (bL h)))) rfl rfl (fun _ => Bx.c0 hS rfl) rfl ⟨rfl, rfl⟩) rfl rfl ?_
      refine rd ?_
      refine GM.read (fun w' hS => Step.load1 tb rfl (Op1.of rfl (by first | exact fun _ => rfl | exact fun h => h | exact fun h => bL h | exact fun h => bL (bL h) | exact fun h => bL (bL (bL h)))) rfl rfl (fun _ => Bx.ci hS (by exact rfl)) rfl ⟨rfl, rfl⟩) rfl rfl ?_
      refine rd ?_
      refine GM.eff (Step.store0 (vs := linZ) tb rfl (Op1.of rfl (by first | exact fun _ => rfl | exact fun h => h | exact fun h => bL h | exact fun h => bL (bL h) | exact fun h => bL (bL (bL h)))) (Op1.of rfl (by first | exact fun _ => rfl | exact fun h => h | exact fun h => bL h | exact fun h => bL (bL h) | exact fun h => bL (bL (bL h)))) rfl rfl rfl linZ_one hbz rfl ?_)
      intro W8 hb8 hw8
      refine ⟨hbd.wr hw8 (by omega), ?_⟩
      refine rd ?_
      refine GM.nil ?_
      refine rn ?_
      refine G.retCTT rfl rfl (RV.agg tb hb8.cells) ?_ rfl rfl rfl rfl
      exact ⟨hx7.wr hw8 (by omega), .inr ⟨.inl hL, a, e, he, rfl⟩⟩
    · exfalso
      apply he
      simpa using hc
  · have hb2 := hb1.to hx2
    have hx02 := hx1.trans hx2
    have hz1 := hx1.size
    have hz2 := hx2.size
    have hsl := sampleP_len hL
    have hnl := hn L hL
    refine rn ?_
    refine sAl tb (fun W3 hb3 hs3 hx3 => ?_)
    refine rn ?_
    refine sAl tb (fun W4 hb4 hs4 hx4 => ?_)
    refine rn ?_
    refine sSt tb (fun W5 hb5 hw5 => ?_) (vs := linC (.slice none 0 0) L.val L.time) (hv := rfl) (hb := hb3.to hx4) (h1 := by
      intro y hy
      simp only [linC, List.mem_cons, List.not_mem_nil, or_false] at hy
      rcases hy with rfl | rfl | rfl | rfl <;> rfl)
    refine rn ?_
    refine sSt tb (fun W6 hb6 hw6 => ?_) (vs := [.int .i64 0, .int .i64 0]) (hv := rfl) (hb := hb4.wr hw5 (by omega))
    have hbz6 : Bx W6 w.heap.size linZ := (((hb2.to hx3).to hx4).wr hw5 (by omega)).wr hw6 (by omega)
    have hbx6 : Bx W6 W2.heap.size (linC (.slice none 0 0) L.val L.time) := hb5.wr hw6 (by omega)
    have hx26 : Ext W2 W6 := ((hx3.trans hx4).wr hw5 (by omega)).wr hw6 (by omega)
    have hx6 : Ext w W6 := hx02.trans hx26
    have ho6 := ho2.to hx26
    have hz6 := hx26.size
    have hz36 : W3.heap.size < W6.heap.size := hb6.lt
    clear hb1 hb2 hb3 hb4 hb5 hw5 hw6 hx3 hx4 ho2
    have hv6 := ho6.sli
    refine rn ?_
    refine GL.cons (Step.sliceVl tb 1 rfl (Op1.of rfl (by first | exact fun _ => rfl | exact fun h => h | exact fun h => bL h | exact fun h => bL (bL h) | exact fun h => bL (bL (bL h)))) (Op1.of rfl (by first | exact fun _ => rfl | exact fun h => h | exact fun h => bL h | exact fun h => bL (bL h) | exact fun h => bL (bL (bL h)))) rfl rfl (fun _ => ⟨_, hv6⟩) (fun _ => ⟨rfl, by simp⟩) rfl ?_)
    have hsub : Sli W6 (subS v 2 1 (List.map Lab.labC ((nameB, L.name) :: L.labs)).length) 2 (L.labs.map Lab.labC) := by
      have := Sli.sub hv6 (l := 1) (h := (List.map Lab.labC ((nameB, L.name) :: L.labs)).length) (by simp) (Nat.le_refl _)
      simpa [List.take_of_length_le] using this
    generalize subS v 2 1 (List.map Lab.labC ((nameB, L.name) :: L.labs)).length = v1 at hsub ⊢
    refine rn ?_
    refine (G.loop (fun j : Nat => [(0, none, S s), (2, none, ptr w.heap.size), (5, none, ptr W2.heap.size), (6, none, v), (27, none, v1), (28, none, .int .i64 (L.labs.map Lab.labC).length), (29, none, .int .i64 j)]) (fun j W => Ext W6 W ∧ j ≤ L.labs.length ∧ ∀ m x, m < j → L.labs[m]? = some x → x.1 ≠ nameB) (fun j => L.labs.length - j) 0 (by repeat (first | exact Sub.nil _ | refine Sub.cons rfl ?_)) ⟨Ext.refl _, by omega, by omega⟩ ?_)
    rintro j W ⟨hx, hj, hno⟩
    have hln : (L.labs.map Lab.labC).length = L.labs.length := by simp
    have hsubW := hsub.to hx
    have hx0 := hx6.trans hx
    have hbzW := hbz6.to hx
    have hzW := hx.size
    refine rn ?_
    first | refine G.condD rfl (fun hc => ?_) (fun hc => ?_) | refine G.condN rfl (fun hc => ?_) (fun hc => ?_) | refine G.cond rfl (fun hc => ?_) (fun hc => ?_)
    · have hjl : j < L.labs.length := by omega
      obtain ⟨y, hy⟩ : ∃ y, L.labs[j]? = some y := ⟨_, List.getElem?_eq_getElem hjl⟩
      have hget : (L.labs.map Lab.labC)[j]? = some (Lab.labC y) := by simp [hy]
      try (first | refine gl tb ?_ | refine gg tb ?_ | refine ll tb ?_ | refine lg tb ?_); repeat ((first | refine G.condT rfl ?_ | refine G.condF rfl ?_ | refine sFa tb ?_ | refine sLd tb ?_ | refine sLa tb ?_ | refine sLen tb ?_ | refine sFd tb ?_ | refine sBd tb ?_ | refine sIa tb j ?_); try (first | refine gl tb ?_ | refine gg tb ?_ | refine ll tb ?_ | refine lg tb ?_))
      refine sAl tb (fun W7 hb7 hs7 hx7 => ?_)
      refine sSt tb (fun W8 hb8 hw8 => ?_) (vs := Lab.labC y) (hv := rfl) (h1 := by
        intro z hz
        simp only [Lab.labC, List.mem_cons, List.not_mem_nil, or_false] at hz
        rcases hz with rfl | rfl <;> rfl)
      have hx8 : Ext W W8 := hx7.wr hw8 (by omega)
      have hbz8 := hbzW.to hx8
      have hx08 := hx0.trans hx8
      unfold Lab.labC at hb8
      refine rn ?_
      first | refine G.condD rfl (fun hc => ?_) (fun hc => ?_) | refine G.condN rfl (fun hc => ?_) (fun hc => ?_) | refine G.cond rfl (fun hc => ?_) (fun hc => ?_)
      · refine rn ?_
        refine sSt tb (fun W9 hb9 hw9 => ?_) (vs := linZ) (hv := rfl) (h1 := linZ_one)
        refine rn ?_
        refine G.retCTT rfl rfl (RV.agg tb hb9.cells) ?_ rfl rfl rfl rfl
        exact ⟨hx08.wr hw9 (by omega), .inr ⟨.inr ⟨L, hL, .inl ⟨y, List.mem_of_getElem? hy, hc⟩⟩, 0, 2, by decide, rfl⟩⟩
      · have hne := hc
        refine rn ?_
        refine sAd tb ?_
        refine rn ?_
        refine G.lp (x := j) (j + 1) (by repeat (first | exact Sub.nil _ | refine Sub.cons rfl ?_)) ⟨hx.trans hx8, by omega, fun m x hm hxm => ?_⟩ (by omega)
        by_cases e : m = j
        · subst e
          rw [hy] at hxm
          cases hxm
          exact hne
        · exact hno m x (by omega) hxm
    · have hall : ∀ x ∈ L.labs, x.1 ≠ nameB := by
        intro x hx
        obtain ⟨m, hm⟩ := List.getElem?_of_mem hx
        exact hno m x (by have := (List.getElem?_eq_some_iff.1 hm).1; omega) hm
      have hoW := ho6.to hx
      have hbxW := hbx6.to hx
      have hlz : ∀ x ∈ (nameB, L.name) :: L.labs, Lab.LabSz x := by
        intro x hx
        have hnl2 := hsl.2.2
        rcases List.mem_cons.1 hx with rfl | hx
        · exact ⟨by show nameB.length ≤ _; decide, by show L.name.length ≤ _; omega⟩
        · have := hsl.2.1 x hx
          exact ⟨by show x.1.length ≤ _; omega, by show x.2.length ≤ _; omega⟩
      refine rn ?_
      refine sCall c88 (Lab.new_ok v ((nameB, L.name) :: L.labs) W hoW.sli (by simp only [List.length_cons]; omega) hlz (hT.to hx0)) ?_
      rintro _ W7 ⟨st, e, out, rfl, hnew, ho7, hx7⟩
      have hx07 := hx0.trans hx7
      have hbz7 := hbzW.to hx7
      have hbx7 := hbxW.to hx7
      refine rn ?_
      refine G.cond rfl (fun hc => ?_) (fun hc => ?_)
      · have he : e ≠ 0 := by simpa using hc
        refine rn ?_
        refine sSt tb (fun W9 hb9 hw9 => ?_) (vs := linZ) (hv := rfl) (h1 := linZ_one)
        refine rn ?_
        refine G.retCTT rfl rfl (RV.agg tb hb9.cells) ?_ rfl rfl rfl rfl
        exact ⟨hx07.wr hw9 (by omega), .inr ⟨.inr ⟨L, hL, .inr ⟨hall, e, out, he, hnew⟩⟩, 0, e, he, rfl⟩⟩
      · have he : e = 0 := by simpa using hc
        subst he
        unfold linC at hbx7
        have hcl := ho7.cells
        have hone : st.oneCell' = true := ho7.sli.one st (List.mem_singleton.2 rfl)
        refine rn ?_
        refine sSf tb (fun W8 hb8 hw8 => ?_) (vs := [st]) (hv := hcl) (h1 := by
          intro z hz
          obtain rfl := List.mem_singleton.1 hz
          exact hone)
        have hb8 : Bx W8 W2.heap.size (linC st L.val L.time) := hb8
        have ho8 : Lab.LO W8 W.heap.size st out := ho7.kp hw8.kp (by omega)
        have hbz8 := hbz7.wr hw8 (by omega)
        unfold linC at hb8
        refine rn ?_
        refine sSt tb (fun W9 hb9 hw9 => ?_) (vs := linC st L.val L.time) (hv := rfl) (h1 := by
          intro z hz
          simp only [linC, List.mem_cons, List.not_mem_nil, or_false] at hz
          rcases hz with rfl | rfl | rfl | rfl
          · exact hone
          · rfl
          · rfl
          · rfl)
        have ho9 : Lab.LO W9 W.heap.size st out := ho8.kp hw9.kp (by omega)
        have hx9 : Ext w W9 := (hx07.wr hw8 (by omega)).wr hw9 (by omega)
        refine rn ?_
        refine G.retCTT rfl rfl (RV.agg tb hb9.cells) ?_ rfl rfl rfl rfl
        exact ⟨hx9, .inl ⟨L, st, out, ⟨hL, hall, hnew⟩, rfl, ho9.mono (by have := hx0.size; omega)⟩⟩
end Go.Proofs.YtcngoccnfmhhnaaGreatDoor
end
section
open Go Go.Vg Go.RowKit Go.Proofs Go.Proofs.YtcngoccnfmhhnaaGreatDoor
namespace Go.Proofs.YtcngoccnfmhhnaaGreatDoor
open Go.Ex

theorem linC_one {v : Value} {x : Nat} {t : Option Int} (h : v.oneCell' = true) : ∀ z ∈ linC v x t, z.oneCell' = true := by
  intro z hz
  simp only [linC, List.mem_cons, List.not_mem_nil, or_false] at hz
  rcases hz with rfl | rfl | rfl | rfl
  · exact h
  · rfl
  · rfl
  · rfl
set_option maxHeartbeats 4000000 in
theorem readLine_ok (w : World) (s : List UInt8) (hs : s.length ≤ 1000000000) (hT : Tabs w) (hn : ∀ t L, t <+: s → sampleP Num.intP t = some L → L.labs.length ≤ 999) : Ret Tryz.prog 24 ⟨[S s]⟩ w (WholeS (fun L out => nlI s < 0 ∧ LineIs s L out) (0 ≤ nlI s ∨ LineNo s) w) := by
  refine ret_of_G Tryz.func24 rfl Tryz.ntmps24 rfl ?_
  simp only [argEnv]
  refine rn ?_
  refine sAl tb (fun W1 hb1 hs1 hx1 => ?_)
  refine rn ?_
  refine sCall c48 (cut_ok s W1 hs) ?_
  rintro _ W2 ⟨rfl, hx2⟩
  have hb2 := hb1.to hx2
  have hx02 := hx1.trans hx2
  unfold cutV
  by_cases h0 : 0 ≤ nlI s
  · rw [if_pos h0]
    have htl : (s.take (nlI s).toNat).length ≤ 1000000000 := by rw [List.length_take]; omega
    have hnt := fun L hL => hn (s.take (nlI s).toNat) L (List.take_prefix _ _) hL
    generalize s.take (nlI s).toNat = t at htl hnt ⊢
    refine rn ?_
    refine sCall c49 (whole_ok W2 t htl (hT.to hx02) hnt) ?_
    rintro r W3 ⟨hx3, hr⟩
    obtain ⟨cs, a, e, hone, hcs, rfl, hez⟩ : ∃ (cs : List Value) (a e : Int), (∀ y ∈ cs, y.oneCell' = true) ∧ cs.length = 4 ∧ r = .tuple ⟨[.agg ⟨cs⟩, .int .i64 a, .int .i64 e]⟩ ∧ (e ≠ 0 → cs = linZ) := by
      rcases hr with ⟨L, v, out, _, rfl, ho⟩ | ⟨_, a, e, he, rfl⟩
      · exact ⟨_, 0, 0, linC_one (ho.sli.one v (List.mem_singleton.2 rfl)), rfl, rfl, fun h => absurd rfl h⟩
      · exact ⟨_, a, e, linZ_one, rfl, rfl, fun _ => rfl⟩
    have hb3 := hb2.to hx3
    have hx03 := hx02.trans hx3
    have hz3 := hx03.size
    have hl3 := hb3.lt
    refine rn ?_
    refine sAl tb (fun W4 hb4 hs4 hx4 => ?_)
    refine sSt tb (fun W5 hb5 hw5 => ?_) (vs := cs) (hv := rfl) (hs := hcs) (h1 := hone)
    have hb05 := (hb3.to hx4).wr hw5 (by omega)
    have hx5 : Ext w W5 := (hx03.trans hx4).wr hw5 (by omega)
    refine rn ?_
    refine G.cond rfl (fun hc => ?_) (fun hc => ?_)
    · refine rn ?_
      refine sSt tb (fun W6 hb6 hw6 => ?_) (vs := linZ) (hv := rfl) (h1 := linZ_one)
      refine rn ?_
      refine G.retCTT rfl rfl (RV.agg tb hb6.cells) ?_ rfl rfl rfl rfl
      exact ⟨hx5.wr hw6 (by omega), .inr ⟨.inl h0, t.length, 8, by decide, rfl⟩⟩
    · have he : e ≠ 0 := by
        intro he
        subst he
        simp at hc
      have hcz := hez he
      subst hcz
      refine rn ?_
      refine sSt tb (fun W6 hb6 hw6 => ?_) (vs := linZ) (hv := rfl) (h1 := linZ_one)
      refine rn ?_
      refine G.retCTT rfl rfl (RV.agg tb hb6.cells) ?_ rfl rfl rfl rfl
      exact ⟨hx5.wr hw6 (by omega), .inr ⟨.inl h0, a, e, he, rfl⟩⟩
  · rw [if_neg h0]
    refine rn ?_
    refine sCall c49 (whole_ok W2 s hs (hT.to hx02) (fun L hL => hn s L (List.prefix_refl _) hL)) ?_
    rintro r W3 ⟨hx3, hr⟩
    have hb3 := hb2.to hx3
    have hx03 := hx02.trans hx3
    have hz3 := hx03.size
    have hz2 := hx02.size
    have hl3 := hb3.lt
    rcases hr with ⟨L, v, out, hok, rfl, ho⟩ | ⟨hno, a, e, he, rfl⟩
    · have hone : v.oneCell' = true := ho.sli.one v (List.mem_singleton.2 rfl)
      refine rn ?_
      refine sAl tb (fun W4 hb4 hs4 hx4 => ?_)
      refine sSt tb (fun W5 hb5 hw5 => ?_) (vs := linC v L.val L.time) (hv := rfl) (h1 := linC_one hone)
      have hb05 := (hb3.to hx4).wr hw5 (by omega)
      have hx5 : Ext w W5 := (hx03.trans hx4).wr hw5 (by omega)
      have ho5 : Lab.LO W5 W2.heap.size v out := (ho.to hx4).wr2 hw5 (fun e => by have := (ho.lt _ e.symm).2; omega)
      unfold linC at hb5
      refine rn ?_
      refine sSt tb (fun W6 hb6 hw6 => ?_) (vs := linC v L.val L.time) (hv := rfl) (h1 := linC_one hone)
      have ho6 : Lab.LO W6 W2.heap.size v out := ho5.kp hw6.kp (by have := hb2.lt; omega)
      refine rn ?_
      refine G.retCTT rfl rfl (RV.agg tb hb6.cells) ?_ rfl rfl rfl rfl
      exact ⟨hx5.wr hw6 (by omega), .inl ⟨L, v, out, ⟨by omega, hok⟩, rfl, ho6.mono (by omega)⟩⟩
    · refine rn ?_
      refine sAl tb (fun W4 hb4 hs4 hx4 => ?_)
      refine sSt tb (fun W5 hb5 hw5 => ?_) (vs := linZ) (hv := rfl) (h1 := linZ_one)
      have hb05 := (hb3.to hx4).wr hw5 (by omega)
      have hx5 : Ext w W5 := (hx03.trans hx4).wr hw5 (by omega)
      unfold linZ at hb5
      refine rn ?_
      refine sSt tb (fun W6 hb6 hw6 => ?_) (vs := linZ) (hv := rfl) (h1 := linZ_one)
      refine rn ?_
      refine G.retCTT rfl rfl (RV.agg tb hb6.cells) ?_ rfl rfl rfl rfl
      exact ⟨hx5.wr hw6 (by omega), .inr ⟨.inr hno, a, e, he, rfl⟩⟩
end Go.Proofs.YtcngoccnfmhhnaaGreatDoor
end
section
open Go Go.Vg Go.RowKit Go.Proofs Go.Proofs.YtcngoccnfmhhnaaGreatDoor
namespace Go.Proofs.YtcngoccnfmhhnaaGreatDoor
open Go.Ex

def wakeT : List UInt8 := [117, 112, 123, 97, 61, 34, 49, 34, 125, 32, 50, 32, 51]
def wakeL : LineS := ⟨[117, 112], [([97], [49])], 4611686018427387904, some 3⟩
theorem wake_sample : (match sampleP Num.intP wakeT with | some L => decide (L.name = wakeL.name) && decide (L.labs = wakeL.labs) && decide (L.val = wakeL.val) && decide (L.time = wakeL.time) | none => false) = true := by decide +kernel
theorem wake_nl : nlI wakeT < 0 := by decide +kernel
theorem wake_ok : ([(nameB, [117, 112]), ([97], [49])] : List Lab.Lab).all Lab.okB = true := by decide +kernel
theorem wake_line : sampleP Num.intP wakeT = some wakeL := by
  have h := wake_sample
  split at h
  · rename_i L hL
    simp only [Bool.and_eq_true, decide_eq_true_eq] at h
    obtain ⟨⟨⟨h1, h2⟩, h3⟩, h4⟩ := h
    rw [hL]
    rcases L with ⟨a, b, c, d⟩
    simp only at h1 h2 h3 h4
    subst h1 h2 h3 h4
    rfl
  · cases h
theorem wake_new {e : Int} {out : List Lab.Lab} (h : Lab.newS ((nameB, wakeL.name) :: wakeL.labs) e out) : e = 0 ∧ out.length = 2 := by
  unfold Lab.newS at h
  rw [if_pos (show (((nameB, wakeL.name) :: wakeL.labs : List Lab.Lab).all Lab.okB = true) from wake_ok)] at h
  obtain ⟨d, hp, hs, h⟩ := h
  have hp : d.Perm [(nameB, [117, 112]), ([97], [49])] := hp
  have hl := hp.length_eq
  have hnd : (d.map (·.1)).Nodup := (hp.map _).nodup_iff.2 (by decide)
  rcases d with _ | ⟨x, _ | ⟨y, _ | ⟨z, d⟩⟩⟩
  · simp at hl
  · simp at hl
  · rcases h with ⟨⟨i, h1, h2, h3⟩, _⟩ | ⟨_, h⟩
    · exfalso
      simp only [List.length_cons, List.length_nil] at h2
      obtain rfl : i = 1 := by omega
      have : y.1 = x.1 := h3
      simp [this] at hnd
    · rw [if_neg (by simp)] at h
      exact ⟨h.1, by rw [h.2]; rfl⟩
  · simp at hl
theorem quote_ok (w : World) : Ret Tryz.prog 25 ⟨[S [34]]⟩ w fun r w' => r = S [92, 34] ∧ Ext w w' := by
  refine ret_of_G Tryz.func25 rfl Tryz.ntmps25 rfl ?_
  simp only [argEnv]
  refine rn ?_
  refine GL.cons (Step.allocE tb rfl rfl rfl rfl ?_)
  have hx1 : Ext w (w.alloc (.cells ⟨[.pointer none, .slice none 0 0]⟩ 92)) := Ext.alloc _ _
  have hb1 : Bld (w.alloc (.cells ⟨[.pointer none, .slice none 0 0]⟩ 92)) w.heap.size w.heap.size [] :=
    .inl ⟨Nat.le_refl _, _, heap_alloc_new _ _, World.ownsRow_nil _ _ _ _, by simp [Value.ownBlock]⟩
  generalize w.alloc (.cells ⟨[.pointer none, .slice none 0 0]⟩ 92) = W1 at hx1 hb1 ⊢
  refine rn ?_
  refine (G.loop (fun j : Nat => [(0, none, S [34]), (3, none, ptr w.heap.size), (7, none, .int .i64 1), (8, none, .int .i64 j)]) (fun j W => Ext w W ∧ j ≤ 1 ∧ Bld W w.heap.size w.heap.size (if j = 0 then [] else [92, 34])) (fun j => 1 - j) 0 (by repeat (first | exact Sub.nil _ | refine Sub.cons rfl ?_)) ⟨hx1, by omega, hb1⟩ ?_)
  clear hb1 hx1
  rintro j W ⟨hx, hj, hb⟩
  refine rn ?_
  first | refine G.condD rfl (fun hc => ?_) (fun hc => ?_) | refine G.condN rfl (fun hc => ?_) (fun hc => ?_) | refine G.cond rfl (fun hc => ?_) (fun hc => ?_)
  · obtain rfl : j = 0 := by omega
    rw [if_pos rfl] at hb
    refine rn ?_
    refine sBs tb 0 ?_ (hj := fun _ => ⟨rfl, by decide⟩)
    refine rn ?_
    refine sCall c51 (wbyte_ok w.heap.size w.heap.size [] 92 W hb (by decide) hx.size) ?_
    rintro _ W2 ⟨rfl, hb2, hx2⟩
    have hx02 : Ext w W2 := Below.trans (B := w.heap.size) hx hx2
    refine rn ?_
    refine sCall c51 (wbyte_ok w.heap.size w.heap.size [92] 34 W2 hb2 (by decide) hx02.size) ?_
    rintro _ W3 ⟨rfl, hb3, hx3⟩
    have hx03 : Ext w W3 := Below.trans (B := w.heap.size) hx02 hx3
    refine rn ?_
    refine sAd tb ?_
    refine rn ?_
    exact G.lp (x := 0) 1 (by repeat (first | exact Sub.nil _ | refine Sub.cons rfl ?_)) ⟨hx03, Nat.le_refl _, hb3⟩ (by omega)
  · obtain rfl : j = 1 := by omega
    refine rn ?_
    refine sCall c52 (bstr_ok w.heap.size w.heap.size [92, 34] W hb hx.size) ?_
    rintro _ W2 ⟨rfl, hx2⟩
    refine rn ?_
    refine G.ret1 rfl rfl rfl rfl ?_
    exact ⟨rfl, Below.trans (B := w.heap.size) hx hx2⟩
theorem wakes_ok (w : World) (hT : Tabs w) : Ret Tryz.prog 11 ⟨[]⟩ w fun r w' => r = .bool true ∧ Ext w w' := by
  refine ret_of_G Tryz.func11 rfl Tryz.ntmps11 rfl ?_
  simp only [argEnv]
  refine rn ?_
  have hn : ∀ t L, t <+: wakeT → sampleP Num.intP t = some L → L.labs.length ≤ 999 := by
    intro t L ht hL
    have h1 := (sampleP_len hL).1
    have h2 : t.length ≤ 13 := ht.length_le
    omega
  refine sCall c24 (readLine_ok w wakeT (by decide) hT hn) ?_
  rintro _ W1 ⟨hx1, ⟨L, v, out, ⟨_, hL, _, hnew⟩, rfl, ho⟩ | ⟨hbad, _⟩⟩
  rotate_left
  · exfalso
    rcases hbad with hbad | hbad | ⟨L, hL, hbad⟩
    · have := wake_nl; omega
    · rw [wake_line] at hbad; cases hbad
    · rw [wake_line] at hL
      cases hL
      rcases hbad with ⟨x, hx, hxn⟩ | ⟨_, e, out, he, hnew⟩
      · obtain rfl := List.mem_singleton.1 hx
        exact absurd hxn (by decide)
      · exact he (wake_new hnew).1
  · rw [wake_line] at hL
    cases hL
    have hlen := (wake_new hnew).2
    have hone : v.oneCell' = true := ho.sli.one v (List.mem_singleton.2 rfl)
    refine rn ?_
    refine sAl tb (fun W2 hb2 hs2 hx2 => ?_)
    refine sSt tb (fun W3 hb3 hw3 => ?_) (vs := linC v wakeL.val wakeL.time) (hv := rfl) (h1 := linC_one hone)
    have hx3 : Ext w W3 := (hx1.trans hx2).wr hw3 hx1.size
    have ho3 : Lab.LO W3 w.heap.size v out := (ho.to hx2).wr2 hw3 (fun e => by have := (ho.lt _ e.symm).2; omega)
    have hv3 := ho3.sli
    have hlo : (out.map Lab.labC).length = 2 := by rw [List.length_map, hlen]
    unfold linC at hb3
    refine rn ?_
    have hfc : fcmpB .eql wakeL.val 4611686018427387904 = some true := by kernel_rfl
    refine GL.cons (Step.fcmp rfl (Op1.of rfl (by first | exact fun _ => rfl | exact fun h => h | exact fun h => bL h | exact fun h => bL (bL h) | exact fun h => bL (bL (bL h)))) (Op1.of rfl (by first | exact fun _ => rfl | exact fun h => h | exact fun h => bL h | exact fun h => bL (bL h) | exact fun h => bL (bL (bL h)))) hfc rfl ?_)
    refine rn ?_
    refine sCallx c25 (fun hc => quote_ok W3) ?_
    intro W4 hx4
    refine rn ?_
    refine G.ret1 rfl rfl rfl rfl ?_
    refine ⟨?_, hx3.trans hx4⟩
    rw [hlo]
    rfl
end Go.Proofs.YtcngoccnfmhhnaaGreatDoor
end
section
namespace Go.Ex

def linesGo : List UInt8 → List UInt8 → List (List UInt8)
  | cur, [] => if cur = [] then [] else [cur]
  | cur, c :: l => if c = 10 then cur :: linesGo [] l else linesGo (cur ++ [c]) l
/-- a body's lines -/
def linesP (s : List UInt8) : List (List UInt8) := linesGo [] s
theorem linesGo_no : ∀ (l cur : List UInt8), (∀ k : Nat, l[k]? ≠ some 10) → linesGo cur l = if cur ++ l = [] then [] else [cur ++ l]
  | [], cur, _ => by simp [linesGo]
  | c :: l, cur, h => by
    have h0 : c ≠ 10 := by have := h 0; simpa using this
    rw [linesGo, if_neg h0, linesGo_no l (cur ++ [c]) fun k => by have := h (k + 1); simpa using this]
    simp
theorem linesGo_cut : ∀ (a cur b : List UInt8), (∀ k : Nat, a[k]? ≠ some 10) → linesGo cur (a ++ 10 :: b) = (cur ++ a) :: linesGo [] b
  | [], cur, b, _ => by simp [linesGo]
  | c :: a, cur, b, h => by
    have h0 : c ≠ 10 := by have := h 0; simpa using this
    rw [List.cons_append, linesGo, if_neg h0, linesGo_cut a (cur ++ [c]) b fun k => by have := h (k + 1); simpa using this]
    simp
theorem linesP_nil : linesP [] = [] := rfl
theorem linesP_cut {s : List UInt8} {i : Nat} (h : Lib.indexByte s 10 = i) : linesP s = s.take i :: linesP (s.drop (i + 1)) := by
  have h1 := Lib.indexByte_some h
  have hlt : i < s.length := (List.getElem?_eq_some_iff.1 h1.1).1
  have hg : s.getD i 0 = 10 := by rw [List.getD_eq_getElem?_getD, h1.1]; rfl
  have e : s = s.take i ++ 10 :: s.drop (i + 1) := by
    rw [← hg, ← drop_at hlt, List.take_append_drop]
  have := linesGo_cut (s.take i) [] (s.drop (i + 1)) (by
    intro k hk
    rw [List.getElem?_take] at hk
    split at hk
    · rename_i hki; exact h1.2 k hki hk
    · cases hk)
  rw [← e] at this
  unfold linesP
  simpa using this
theorem linesP_last {s : List UInt8} (h : Lib.indexByte s 10 < 0) (hne : s ≠ []) : linesP s = [s] := by
  have h1 : Lib.indexByte s 10 = -1 := by have := Lib.indexByte_ge s 10; omega
  unfold linesP
  rw [linesGo_no s [] (Lib.indexByte_none h1)]
  simp [hne]
theorem linesGo_len : ∀ (s cur : List UInt8), (linesGo cur s).length ≤ s.length + 1 ∧ ∀ x ∈ linesGo cur s, x.length ≤ cur.length + s.length
  | [], cur => by
    unfold linesGo
    split
    · simp
    · simp
  | c :: l, cur => by
    have h1 := linesGo_len l []
    have h2 := linesGo_len l (cur ++ [c])
    simp only [List.length_append, List.length_cons, List.length_nil] at h1 h2
    rw [linesGo]
    split
    · refine ⟨by simp only [List.length_cons]; omega, fun x hx => ?_⟩
      rcases List.mem_cons.1 hx with rfl | hx
      · omega
      · have := h1.2 x hx; simp only [List.length_cons]; omega
    · refine ⟨by simp only [List.length_cons]; omega, fun x hx => ?_⟩
      have := h2.2 x hx; simp only [List.length_cons]; omega
theorem linesP_len (s : List UInt8) : (linesP s).length ≤ s.length + 1 ∧ ∀ x ∈ linesP s, x.length ≤ s.length := by
  have h := linesGo_len s []
  exact ⟨h.1, fun x hx => by have := h.2 x hx; simpa using this⟩
end Go.Ex
end
section
namespace Go.Vg
open Go.RowKit
section
variable {X : Cx} {ops : Array Oper} {l : List Oper} {k : List Kt} {e : Env} {w : World} {N : Env → World → Prop} {d : Nat} {c : Option Bool} {ty : TypeId} {pos : String} {af : Array Edge} {g : Option (Nat × Bool)}
theorem Step.eqNN (T : Tb X.P) {xt yt et : TypeId} {x y : Operand} {n cap : Nat} (hg : guardE ops e ⟨some d, .binOp .eql xt x y yt, ty, pos, af, g⟩ = some c)
    (hx : Op1 e c x (.slice none n cap)) (hy : Op1 e c y (.slice none 0 0)) (ht : T.ty xt = some (.slice et)) (hn : Nat.blt d X.n = true)
    (h : N ((d, c, .bool true) :: e) w) : Step X ops ⟨some d, .binOp .eql xt x y yt, ty, pos, af, g⟩ e w N :=
  Step.quiet rfl (by simpa [Nat.blt_eq] using hn) hg (fun _ hh => by cases hh) (fun t hf hc => by
    have hT := T.ok _ _ ht
    have h1 : (eqGuard .eql xt x y (.slice none n cap) (.slice none 0 0)).run X.P w = .ok () w := by simp [eqGuard]
    have he := run_equal_slice_nil (P := X.P) w xt et none n cap hT
    have h2 : (binOp .eql xt (.slice none n cap) (.slice none 0 0)).run X.P w = .ok (.bool true) w := by
      simp only [binOp, Sem.run_bind, he, Sem.run_map, Result.andThen_ok, Sem.run_pure]; rfl
    simp only [execOp, hx.val hf hc, hy.val hf hc, Sem.run_bind, h1, h2, Result.andThen_ok, Sem.run_pure]) h
end
theorem bytesOf_nat (l : List UInt8) : Lib.bytesOf (l.map fun b => (b.toNat : Int)) = l := by
  unfold Lib.bytesOf
  rw [List.map_map]
  conv => rhs; rw [← List.map_id l]
  refine List.map_congr_left fun b _ => ?_
  simp
end Go.Vg
end
section
namespace Go.Vg
open Go.RowKit Go.WideShapes Go.ChangeShapes

theorem open_sli {H : Type} {enc : TypeId × Value → H} {P : Program} {w : World} {sp : Nat → Bool} {hd : Bool} {t e k b0 : Nat} {α : Type} {v : Value} {d : DataW H} {p : List MemPlace} (dec : α → List Value) (Q : α → Prop)
    (ht : P.underlying t = some (.slice e)) (hc : P.cellsOf e = k) (hel : ∀ n cs x, DataW.trod enc P w 0 sp hd n e cs = some x → ∃ a, cs = dec a ∧ Q a)
    (hval : Value.okWide P w .any b0 t v) (h : DataW.Trod enc P w 0 sp hd t v d p) : ∃ ls : List α, Sli w v k (ls.map dec) ∧ ∀ a ∈ ls, Q a := by
  have hspot : ∀ a l c, v = .slice (some a) l c → a.spot = none := by
    rintro a l c rfl
    simp only [Value.okWide, ht, Cell.okWide, Cell.ok, World.has] at hval
    exact hval.2.2.2.1
  obtain ⟨a0, len, cap, rfl⟩ := okWide_slice ht hval
  obtain ⟨fuel, h⟩ := h
  rcases Go.Deep.open_slice ht h with ⟨h1, _⟩ | ⟨a, len', cap', m, n, D, Pl, h1, hb, hl, hm, hmm, _, hx⟩
  · have h2 : Value.slice a0 len cap = .slice none 0 0 := by simpa [Value.cells] using h1
    exact ⟨[], .inl ⟨h2, rfl⟩, by simp⟩
  · have h2 : Value.slice a0 len cap = .slice (some a) len' cap' := by simpa [Value.cells] using h1
    cases h2
    have hlm : len ≤ m := by rw [hmm]; split <;> omega
    have each : ∀ i, i < len → ∃ x : α, w.cells? 0 (a.add (i * k)) k = some (dec x) ∧ Q x := by
      intro i hi
      obtain ⟨cs, h3, h4⟩ := hx i (by omega)
      rw [hc] at h3
      obtain ⟨x, rfl, hq⟩ := hel n cs _ h4
      exact ⟨x, h3, hq⟩
    have build : ∀ l, l ≤ len → ∃ ls : List α, ls.length = l ∧ (∀ i x, ls[i]? = some x → w.cells? 0 (a.add (i * k)) k = some (dec x) ∧ Q x) := by
      intro l
      induction l with
      | zero => intro _; exact ⟨[], rfl, by simp⟩
      | succ l ih =>
        intro hl'
        obtain ⟨ls, h5, h6⟩ := ih (by omega)
        obtain ⟨x, h7⟩ := each l (by omega)
        refine ⟨ls ++ [x], by simp [h5], fun i y hy => ?_⟩
        by_cases hi : i < ls.length
        · rw [List.getElem?_append_left hi] at hy; exact h6 i y hy
        · have hil : i = l := by
            have := (List.getElem?_eq_some_iff.1 hy).1
            simp at this; omega
          subst hil
          rw [List.getElem?_append_right (by omega), h5, Nat.sub_self] at hy
          cases hy; exact h7
    obtain ⟨ls, h5, h6⟩ := build len (Nat.le_refl _)
    refine ⟨ls, .inr ⟨a, cap, by rw [List.length_map, h5], hspot a len cap rfl, by rw [List.length_map, h5]; exact hl, ?_, ?_, ?_⟩, ?_⟩
    · intro x hx'
      obtain ⟨y, hy, rfl⟩ := List.mem_map.1 hx'
      obtain ⟨i, hi⟩ := List.getElem?_of_mem hy
      exact (World.cells?_some (h6 i y hi).1).2.1
    · intro i x hx' j u hu
      simp only [List.getElem?_map, Option.map_eq_some_iff] at hx'
      obtain ⟨y, hy, rfl⟩ := hx'
      obtain ⟨_, h8, h9⟩ := World.cells?_some (h6 i y hy).1
      have hj : j < k := by have := (List.getElem?_eq_some_iff.1 hu).1; omega
      have := h9 j hj
      rw [hu, Addr.add_add a (hspot a len cap rfl)] at this
      exact this
    · rw [List.length_map, h5]; unfold maxLen at hm; omega
    · intro x hx'
      obtain ⟨i, hi⟩ := List.getElem?_of_mem hx'
      exact (h6 i x hi).2
end Go.Vg
end
section
namespace Go.Vg
open Go.RowKit Go.WideShapes Go.ChangeShapes

/-- a value fits its type; kept folded -/
structure OkW (P : Program) (w : World) (b t : Nat) (v : Value) : Prop where
  ok : Value.okWide P w .any b t v
theorem open_rows {H : Type} {enc : TypeId × Value → H} {P : Program} {w : World} {sp : Nat → Bool} {hd : Bool} {t e k b0 : Nat} {α : Type} {v : Value} {d : DataW H} {p : List MemPlace} (dec : α → List Value) (Q : α → Prop)
    (ht : P.underlying t = some (.slice e)) (hc : P.cellsOf e = k) (hel : ∀ n cs x, DataW.trod enc P w 0 sp hd n e cs = some x → ∃ a, cs = dec a ∧ Q a)
    (hval : OkW P w b0 t v) (h : DataW.Trod enc P w 0 sp hd t v d p) : ∃ ls : List α, Sli w v k (ls.map dec) ∧ ∀ a ∈ ls, Q a := open_sli dec Q ht hc hel hval.ok h
theorem wf_u8 {n : Int} (h : (Lit.int .u8 n).wf = true) : 0 ≤ n ∧ n < 256 := by
  have e1 : IntKind.u8.min = 0 := by decide
  have e2 : IntKind.u8.max = 255 := by decide
  simp only [Lit.wf, Bool.and_eq_true, decide_eq_true_eq, e1, e2] at h
  omega
theorem open_int1 {H : Type} {enc : TypeId × Value → H} {P : Program} {w : World} {b : Nat} {sp : Nat → Bool} {hd : Bool} {t n : Nat} {k : IntKind} {cs : List Value} {x : DataW H × List MemPlace}
    (ht : P.underlying t = some (.int k)) (h : DataW.trod enc P w b sp hd n t cs = some x) : ∃ m : Int, cs = [.int k m] ∧ (Lit.int k m).wf = true := by
  obtain ⟨m, rfl, _, hl⟩ := DataW.trod_int ht h
  exact ⟨m, rfl, hl⟩
theorem trodAll_stays {H : Type} {enc : TypeId × Value → H} {P : Program} (hl : laidOutB P = true) {W W' : World} {sp : Nat → Bool} (hx : Below W.heap.size W W') :
    ∀ {ts : List TypeId} {vs : List Value} {ds : List (DataW H)} {ps : List MemPlace}, (ts.all fun t => P.readableRec t && decide (t < P.types.size)) = true → DataW.TrodAll enc P W 0 (fun _ => true) true ts vs ds ps →
      (∀ p ∈ ps, p.block < W.heap.size) → (∀ p ∈ ps, sp p.block = true) → DataW.TrodAll enc P W' 0 sp true ts vs ds ps
  | [], vs, ds, ps, _, h, _, _ => by
    obtain ⟨rfl, rfl, rfl⟩ := trodAll_nil h
    exact trodAll_mk0
  | t :: ts, vs, ds, ps, ht, h, hlt, hsp => by
    simp only [List.all_cons, Bool.and_eq_true, decide_eq_true_eq] at ht
    obtain ⟨v, vs, d, ds, p, q, rfl, rfl, rfl, h0, h1⟩ := trodAll_cons h
    have h0' := WideElems.Trod_stays (sp' := sp) hl ht.1.1 ht.1.2 h0 (fun x hx' => hx.same (hlt x (by simp [hx']))) (fun x hx' => hsp x (by simp [hx']))
    exact trodAll_cons_mk h0' (trodAll_stays hl hx ht.2 h1 (fun x hx' => hlt x (by simp [hx'])) (fun x hx' => hsp x (by simp [hx'])))

/-- a law's end: true, and every argument reads as it did -/
theorem law_post {H : Type} {enc : TypeId × Value → H} {P : Program} {f : Func} {s : ChangeSpec} {tb : TypeId} {W W' : World} {args : Array Value} {ds gs : List (DataW H)} {before : List MemPlace}
    (hl : laidOutB P = true) (hts : (f.params.toList.all fun t => P.readableRec t && decide (t < P.types.size)) = true) (hr : f.resultTypes = #[tb]) (htb : P.underlying tb = some .bool) (hv : s.vars = [])
    (hW : DataW.Whole enc P f.params.toList s.vars false W args.toList ds gs before)
    (hfn : s.fn H ds = { results := [.lit (.bool true)], args := ds })
    (hx : Below W.heap.size W W') : s.post enc P f false true false false W args (.bool true) W' := by
  have hlt : ∀ p ∈ before, p.block < W.heap.size := fun p hp => hW.lt p hp
  have hW' := hW
  obtain ⟨p, q, hA, hV, rfl, hz, hn⟩ := hW
  rw [hv] at hV
  obtain ⟨rfl, rfl⟩ := trodVars_none hV
  have hfn' : s.fn H (ds ++ []) = { results := [.lit (.bool true)], args := ds } := by rw [List.append_nil]; exact hfn
  have hA' : ∀ sp : Nat → Bool, (∀ x ∈ p ++ [], sp x.block = true) → DataW.TrodAll enc P W' 0 sp true f.params.toList args.toList (s.fn H (ds ++ [])).args p := by
    intro sp hsp
    rw [hfn']
    exact trodAll_stays hl hx hts hA (fun x hx' => hlt x (by simp [hx'])) (fun x hx' => hsp x (by simp [hx']))
  refine ⟨ds, [], p ++ [], [], p, [], hW', ?_, hA' _ (fun x hx' => by simpa using hlt x hx'), ?_, World.keptBut_mono (fun x hx' => ⟨hx', ?_⟩) (hx.frame (· ∈ p ++ [])), fun h => by cases h⟩
  · rw [hfn', hr]
    exact trodAll_cons_mk (shut_bool htb _) trodAll_mk0
  · rw [hv, hfn']; rfl
  · exact .inr (by simpa using hx')
end Go.Vg
end
section
open Go Go.Vg Go.RowKit Go.Proofs Go.Proofs.YtcngoccnfmhhnaaGreatDoor
namespace Go.Proofs.YtcngoccnfmhhnaaGreatDoor
open Go.Ex

/-- a separator of one line end -/
def Sep (w : World) (u : Value) : Prop := ∃ b d, u = .slice (some ⟨b, 0, none⟩) 1 d ∧ w.cell? ⟨b, 0, none⟩ = some (U 10) ∧ By w u [10]
theorem Sep.of {w w' : World} {B : Nat} {u : Value} (ho : Owns w B u 5 1 (bysC [10])) (hb : By w' u [10]) : Sep w' u := by
  rcases ho.1.2 with ⟨_, h0⟩ | ⟨g, cap, cur, rfl, hB, hg, _⟩
  · cases h0
  · have hb0 := hb
    rcases hb with ⟨h, _⟩ | ⟨a, cap', he, hsp, h3, h4, h5, h6⟩
    · cases h
    · simp only [Value.slice.injEq, Option.some.injEq] at he
      obtain ⟨rfl, _, _⟩ := he
      refine ⟨g, cap, rfl, ?_, hb0⟩
      have := h5 0 [U 10] rfl 0 (U 10) rfl
      rw [Addr.add_lit] at this
      exact this
theorem index_ok (v u : Value) (s : List UInt8) (w : World) (hv : By w v s) (hne : s ≠ []) (hu : Sep w u) :
    Ret Tryz.prog 47 ⟨[v, u]⟩ w fun r w' => r = .int .i64 (nlI s) ∧ w' = w := by
  obtain ⟨b, d, rfl, hc, -⟩ := hu
  rcases hv with ⟨_, h⟩ | ⟨a, cap, rfl, hsp, h3, h4, h5, h6⟩
  · cases s with
    | nil => exact absurd rfl hne
    | cons c l => cases h
  · have hl := bysC_len s
    refine Calls.mono (Any.bytes_Index_one_at Tryz.lays185 a (bysC s).length cap b 0 d (s.map fun b => (b.toNat : Int)) 10 w (by simp [hl]) ?_ hc) fun _ _ ⟨he, hw⟩ => ⟨_, he, ?_, hw⟩
    · intro i hi
      rw [hl] at hi
      have h := h5 i [U (s.getD i 0)] (bysC_get hi) 0 _ rfl
      rw [Nat.mul_one, Nat.add_zero] at h
      rw [h]
      simp [U, List.getD_eq_getElem?_getD, List.getElem?_map, List.getElem?_eq_getElem hi]
    · rw [bytesOf_nat]; rfl
/-- what bytes.Cut gives -/
def cutBV (v : Value) (s : List UInt8) : Value := if 0 ≤ nlI s then .tuple ⟨[subS v 1 0 (nlI s).toNat, subS v 1 ((nlI s).toNat + 1) s.length, .bool true]⟩ else .tuple ⟨[v, .slice none 0 0, .bool false]⟩
theorem cutB_ok (v u : Value) (s : List UInt8) (w : World) (hv : By w v s) (hne : s ≠ []) (hu : Sep w u) (hs : s.length ≤ 1000000000) :
    Ret Tryz.prog 23 ⟨[v, u]⟩ w fun r w' => r = cutBV v s ∧ Ext w w' := by
  refine ret_of_G Tryz.func23 rfl Tryz.ntmps23 rfl ?_
  simp only [argEnv]
  refine rn ?_
  have hge := nlI_ge s
  have hlt : ∀ i : Nat, nlI s = i → i < s.length := fun i h => nlI_lt h
  have hix := index_ok v u s w hv hne hu
  have hcv : cutBV v s = if 0 ≤ nlI s then .tuple ⟨[subS v 1 0 (nlI s).toNat, subS v 1 ((nlI s).toNat + 1) s.length, .bool true]⟩ else .tuple ⟨[v, .slice none 0 0, .bool false]⟩ := rfl
  generalize nlI s = n at hge hlt hix hcv
  rw [hcv]
  have hl := bysC_len s
  obtain ⟨ub, ud, hue, hc2, hub⟩ := hu
  have hl1 : (bysC ([10] : List UInt8)).length = 1 := rfl
  refine sCall c47 (hix) ?_
  rintro _ W ⟨rfl, hW⟩
  obtain rfl : w = W := hW.symm
  refine rn ?_
  first | refine G.condD rfl (fun hc => ?_) (fun hc => ?_) | refine G.condN rfl (fun hc => ?_) (fun hc => ?_) | refine G.cond rfl (fun hc => ?_) (fun hc => ?_)
  · obtain ⟨i, rfl⟩ : ∃ i : Nat, n = i := ⟨n.toNat, by omega⟩
    have hi := hlt i rfl
    rw [if_pos hc]
    refine rn ?_
    refine G.regionM [(0, true), (1, true), (2, true), (3, true), (4, true), (5, true), (6, true), (7, true), (8, true), (9, true), (10, true), (11, true)] (Ext w) (by kernel_rfl) (by kernel_rfl) rfl mixed (Ext.drew w) rfl ?_
    refine rd ?_
    refine GM.read (fun w' hS => Step.sliceVh tb i rfl (Op1.of rfl (by first | exact fun _ => rfl | exact fun h => h | exact fun h => bL h | exact fun h => bL (bL h) | exact fun h => bL (bL (bL h)))) (Op1.of rfl (by first | exact fun _ => rfl | exact fun h => h | exact fun h => bL h | exact fun h => bL (bL h) | exact fun h => bL (bL (bL h)))) rfl rfl (fun _ => ⟨_, hv⟩) (fun _ => ⟨rfl, by omega⟩) rfl ⟨rfl, rfl⟩) rfl rfl ?_
    refine rd ?_
    refine dAd tb (r := ((i + 1 : Nat) : Int)) ?_ (hp := by show IntKind.i64.wrap _ = _; rw [wrap_i64 (by omega) (by omega)]; omega)
    refine rd ?_
    refine GM.read (fun w' hS => Step.sliceVl tb (i + 1) rfl (Op1.of rfl (by first | exact fun _ => rfl | exact fun h => h | exact fun h => bL h | exact fun h => bL (bL h) | exact fun h => bL (bL (bL h)))) (Op1.of rfl (by first | exact fun _ => rfl | exact fun h => h | exact fun h => bL h | exact fun h => bL (bL h) | exact fun h => bL (bL (bL h)))) rfl rfl (fun _ => ⟨_, hv⟩) (fun _ => ⟨rfl, by omega⟩) rfl ⟨rfl, rfl⟩) rfl rfl ?_
    refine rd ?_
    refine GM.nil ?_
    refine rn ?_
    refine G.ret3 rfl rfl rfl rfl rfl rfl ?_
    exact ⟨by rw [hl]; simp, Ext.drew w⟩
  · rw [if_neg hc]
    refine rn ?_
    refine G.ret3 rfl rfl rfl rfl rfl rfl ?_
    exact ⟨rfl, Ext.refl _⟩
theorem clone_ok (v : Value) (s : List UInt8) (w : World) (hv : By w v s) (hs : s.length ≤ 1000000000) :
    Ret Tryz.prog 21 ⟨[v]⟩ w fun r w' => Owns w' w.heap.size r 5 1 (bysC s) ∧ Ext w w' := by
  have hv0 := hv
  rcases hv with ⟨rfl, h⟩ | ⟨a, cap, rfl, hsp, h3, h4, h5, h6⟩
  · (refine ret_of_G Tryz.func21 rfl Tryz.ntmps21 rfl ?_; simp only [argEnv])
    refine rn ?_
    refine GL.cons (Step.eqNN tb rfl (Op1.of rfl (by first | exact fun _ => rfl | exact fun h => h | exact fun h => bL h | exact fun h => bL (bL h) | exact fun h => bL (bL (bL h)))) (Op1.of rfl (by first | exact fun _ => rfl | exact fun h => h | exact fun h => bL h | exact fun h => bL (bL h) | exact fun h => bL (bL (bL h)))) rfl rfl ?_)
    refine rn ?_
    refine G.ret1 rfl rfl rfl rfl ?_
    exact ⟨by rw [h]; exact Owns.nil _ _ _ _, Ext.refl _⟩
  · (refine ret_of_G Tryz.func21 rfl Tryz.ntmps21 rfl ?_; simp only [argEnv])
    refine rn ?_
    refine GL.cons (Step.eqSN tb rfl (Op1.of rfl (by first | exact fun _ => rfl | exact fun h => h | exact fun h => bL h | exact fun h => bL (bL h) | exact fun h => bL (bL (bL h)))) (Op1.of rfl (by first | exact fun _ => rfl | exact fun h => h | exact fun h => bL h | exact fun h => bL (bL h) | exact fun h => bL (bL (bL h)))) rfl rfl ?_)
    refine rn ?_
    refine sBs' tb [] ?_ (hkl := by simp)
    intro v1 w1 ho1 hs1 hx1
    refine rn ?_
    refine sApp tb ho1 (hv0.to hx1) (fun v' W2 hv2 hg2 => ?_) (h1 := bysC_one s) (hb := by simp only [bysC_len, List.length_nil]; omega) (hl := by simp only [bysC_len, List.length_nil]; omega) (hB := by omega)
    refine rn ?_
    refine G.ret1 rfl rfl rfl rfl ?_
    exact ⟨hv2, Below.trans (B := w.heap.size) hx1 hg2.bl⟩
theorem lines_ok (v : Value) (s : List UInt8) (w : World) (hv : By w v s) (hs : s.length ≤ 1000000000) :
    Ret Tryz.prog 9 ⟨[v]⟩ w fun r w' => ∃ b v', r = .func (.func 22) #[] ⟨[ptr b]⟩ ∧ w.heap.size ≤ b ∧ Bx w' b [v'] ∧ Owns w' w.heap.size v' 5 1 (bysC s) ∧ Ext w w' := by
  refine ret_of_G Tryz.func9 rfl Tryz.ntmps9 rfl ?_
  simp only [argEnv]
  refine rn ?_
  refine sBox (fun w1 hb1 hs1 hx1 => ?_) (hv := hv.cells)
  refine rn ?_
  refine sCall c21 (clone_ok v s w1 (hv.to hx1) hs) ?_
  rintro v2 w2 ⟨hv2, hx2⟩
  have hb2 := hb1.to hx2
  refine rn ?_
  refine sSt tb (fun w3 hb3 hw3 => ?_) (vs := [v2]) (hv := hv2.cells) (h1 := hv2.sli.one)
  refine rn ?_
  refine G.ret1 rfl rfl rfl rfl ?_
  have hz2 := hx2.size
  have hx3 : Ext w w3 := (hx1.trans hx2).wr hw3 (by omega)
  exact ⟨_, _, rfl, Nat.le_refl _, hb3, (hv2.kp hw3.kp (by omega)).mono (by omega), hx3⟩
/-- lines with their numbers, as they are told -/
def lnC : Nat → List (List UInt8) → List (List Value)
  | _, [] => []
  | k, l :: r => [.int .i64 k, S l] :: lnC (k + 1) r
theorem lnC_len : ∀ (ls : List (List UInt8)) (k : Nat), (lnC k ls).length = ls.length
  | [], _ => rfl
  | _ :: r, k => by simp [lnC, lnC_len r (k + 1)]
theorem lnC_get : ∀ (ls : List (List UInt8)) (k i : Nat) (x : List UInt8), ls[i]? = some x → (lnC k ls)[i]? = some [.int .i64 ((k + i : Nat) : Int), S x]
  | [], _, _, _, h => by simp at h
  | l :: r, k, 0, x, h => by simp only [List.getElem?_cons_zero, Option.some.injEq] at h; subst h; rfl
  | l :: r, k, i + 1, x, h => by
    have := lnC_get r (k + 1) i x (by simpa using h)
    simp only [lnC, List.getElem?_cons_succ]
    rw [this, show k + 1 + i = k + (i + 1) by omega]
theorem cut_parts (v u : Value) (s rest : List UInt8) (hsub : ∀ W', By W' v s → By W' u rest) (hne : rest ≠ []) : ∃ u1 u2 fb L1 rest', cutBV u rest = .tuple ⟨[u1, u2, .bool fb]⟩ ∧ (∀ W', By W' v s → By W' u1 L1) ∧ (∀ W', By W' v s → By W' u2 rest') ∧ linesP rest = L1 :: linesP rest' ∧ rest'.length ≤ rest.length := by
  unfold cutBV
  by_cases h0 : 0 ≤ nlI rest
  · rw [if_pos h0]
    obtain ⟨i, hi⟩ : ∃ i : Nat, nlI rest = i := ⟨(nlI rest).toNat, by omega⟩
    have hil := nlI_lt hi
    rw [hi, Int.toNat_natCast]
    have hlr : (bysC rest).length = rest.length := bysC_len _
    refine ⟨_, _, true, rest.take i, rest.drop (i + 1), rfl, ?_, ?_, linesP_cut hi, by rw [List.length_drop]; omega⟩
    · intro W' hW'
      have := Sli.sub (hsub W' hW') (l := 0) (h := i) (Nat.zero_le _) (by omega)
      rw [List.drop_zero, Nat.sub_zero] at this
      show Sli _ _ _ (List.map _ _)
      rw [List.map_take]
      exact this
    · intro W' hW'
      have := Sli.sub (hsub W' hW') (l := i + 1) (h := rest.length) (by omega) (by omega)
      rw [List.take_of_length_le (by rw [List.length_drop]; omega)] at this
      show Sli _ _ _ (List.map _ _)
      rw [List.map_drop]
      exact this
  · rw [if_neg h0]
    have h1 : Lib.indexByte rest 10 < 0 := by
      have : nlI rest < 0 := by omega
      exact this
    exact ⟨_, _, false, rest, [], rfl, hsub, fun W' _ => Sli.nil _ _, linesP_last h1 hne, Nat.zero_le _⟩
theorem lines1_ok (v : Value) (s : List UInt8) (b : Nat) (hs : s.length ≤ 1000000000) : IterOk Tryz.prog 22 [ptr b] (lnC 1 (linesP s)) (fun W => CellAt W (ptr b) v ∧ By W v s) := by
  intro l I St w hD hI hSt h0 hY
  refine ret_of_G Tryz.func22 rfl Tryz.ntmps22 rfl ?_
  simp only [argEnv]
  have h0' := hD 0 w h0
  have hll := (linesP_len s).1
  refine rn ?_
  refine sLd tb ?_ (hc := fun _ => h0'.1)
  refine rn ?_
  refine (G.loop (fun x : Nat × Value => [(0, none, yieldV l), (3, none, x.2), (4, none, .int .i64 ((x.1 : Int) + 1))]) (fun x W => I x.1 W ∧ x.1 ≤ (linesP s).length ∧ ∃ rest : List UInt8, rest.length ≤ s.length ∧ (∀ W', By W' v s → By W' x.2 rest) ∧ (linesP s).drop x.1 = linesP rest) (fun x => (linesP s).length - x.1) (0, v) (by repeat (first | exact Sub.nil _ | refine Sub.cons rfl ?_)) ⟨h0, Nat.zero_le _, s, Nat.le_refl _, fun _ h => h, rfl⟩ ?_)
  clear h0'
  rintro ⟨k, u⟩ W ⟨hIk, hk, rest, hrl, hsub, hdr⟩
  simp only at hIk hk hsub hdr ⊢
  have hDk := hD k W hIk
  have hu := hsub W hDk.2
  have hlr : (bysC rest).length = rest.length := bysC_len _
  refine rn ?_
  first | refine G.condD rfl (fun hc => ?_) (fun hc => ?_) | refine G.condN rfl (fun hc => ?_) (fun hc => ?_) | refine G.cond rfl (fun hc => ?_) (fun hc => ?_)
  · have hrp : 0 < rest.length := by omega
    have hne : rest ≠ [] := by
      intro e; rw [e] at hrp; simp at hrp
    obtain ⟨u1, u2, fb, L1, rest', hcv, hb1, hb2, hlp, hrl2⟩ := cut_parts v u s rest hsub hne
    have hlt : k < (linesP s).length := by
      have := congrArg List.length hdr
      rw [hlp] at this
      simp only [List.length_drop, List.length_cons] at this
      omega
    have hget : (linesP s)[k]? = some L1 := by
      have := congrArg (fun l => l[0]?) hdr
      rw [hlp] at this
      simpa using this
    have hdr2 : (linesP s).drop (k + 1) = linesP rest' := by
      have := congrArg (List.drop 1) hdr
      rw [hlp] at this
      simpa using this
    refine rn ?_
    refine sBs' tb (bysC [10]) ?_ (hkl := bysC_k _)
    intro v1 w1 ho1 hs1 hx1
    refine GL.cons (Step.markS tb rfl (Op1.of rfl (by first | exact fun _ => rfl | exact fun h => h | exact fun h => bL h | exact fun h => bL (bL h) | exact fun h => bL (bL (bL h)))) rfl rfl ho1 (by decide) rfl ?_)
    intro w2 hv2 hx2
    have hx02 : Ext W w2 := Below.trans hx1 hx2
    have hI2 := hI _ _ _ hIk hx02
    have hu2 := hu.to hx02
    have hct := cutB_ok u v1 rest w2 hu2 hne (Sep.of ho1 hv2) (by omega)
    rw [hcv] at hct
    refine sCall c23 (hct) ?_
    rintro _ w3 ⟨rfl, hx3⟩
    have hI3 := hI _ _ _ hI2 hx3
    have hD3 := (hD _ _ hI3).2
    have h13 : By w3 u1 L1 := hb1 w3 hD3
    clear hct hu2 hu ho1 hv2
    refine rn ?_
    refine sByS tb h13 ?_
    refine rn ?_
    refine GL.cons (Step.yield rfl (Op1.of rfl (by first | exact fun _ => rfl | exact fun h => h | exact fun h => bL h | exact fun h => bL (bL h) | exact fun h => bL (bL (bL h)))) rfl rfl rfl (hY k _ w3 (by
      have := lnC_get (linesP s) 1 k L1 hget
      rw [this]
      show some [Value.int .i64 ((1 + k : Nat) : Int), S L1] = some [Value.int .i64 ((k : Int) + 1), S L1]
      rw [show ((1 + k : Nat) : Int) = (k : Int) + 1 by omega]) hI3) ?_)
    intro bb w4 hR
    cases bb with
    | true =>
      refine rn ?_
      refine sAd tb ?_
      refine rn ?_
      exact G.lp (x := (k, u)) (k + 1, u2) (by repeat (first | exact Sub.nil _ | refine Sub.cons rfl ?_)) ⟨hR, by show k + 1 ≤ _; omega, rest', by omega, hb2, hdr2⟩ (by show (linesP s).length - (k + 1) < (linesP s).length - k; omega)
    | false =>
      refine rn ?_
      exact G.ret0 rfl rfl rfl (.inr hR)
  · refine rn ?_
    have hre : rest = [] := List.eq_nil_of_length_eq_zero (by omega)
    subst hre
    rw [linesP_nil] at hdr
    have := congrArg List.length hdr
    simp only [List.length_drop, List.length_nil] at this
    obtain rfl : k = (linesP s).length := by omega
    exact G.end0 rfl rfl rfl (.inl (by rw [lnC_len]; exact hIk))
end Go.Proofs.YtcngoccnfmhhnaaGreatDoor
end
section
open Go Go.Vg Go.RowKit Go.Proofs Go.Proofs.YtcngoccnfmhhnaaGreatDoor
namespace Go.Proofs.YtcngoccnfmhhnaaGreatDoor
open Go.Ex

theorem by_sub {w : World} {v : Value} {s : List UInt8} (h : By w v s) {i j : Nat} (hij : i ≤ j) (hj : j ≤ s.length) : By w (subS v 1 i j) ((s.drop i).take (j - i)) := by
  have hl := bysC_len s
  have := Sli.sub h (l := i) (h := j) hij (by omega)
  show Sli _ _ _ (List.map _ _)
  rw [List.map_take, List.map_drop]
  exact this
theorem clip_ok (v : Value) (s : List UInt8) (w : World) (hv : By w v s) :
    Ret Tryz.prog 7 ⟨[v]⟩ w fun r w' => (∀ W, By W v s → By W r (s.take 1500)) ∧ w' = w := by
  have hl := bysC_len s
  refine ret_of_G Tryz.func7 rfl Tryz.ntmps7 rfl ?_
  simp only [argEnv]
  refine rn ?_
  first | refine G.condD rfl (fun hc => ?_) (fun hc => ?_) | refine G.condN rfl (fun hc => ?_) (fun hc => ?_) | refine G.cond rfl (fun hc => ?_) (fun hc => ?_)
  · refine rn ?_
    refine GL.cons (Step.sliceVh tb 1500 rfl (Op1.of rfl (by first | exact fun _ => rfl | exact fun h => h | exact fun h => bL h | exact fun h => bL (bL h) | exact fun h => bL (bL (bL h)))) (Op1.of rfl (by first | exact fun _ => rfl | exact fun h => h | exact fun h => bL h | exact fun h => bL (bL h) | exact fun h => bL (bL (bL h)))) rfl rfl (fun _ => ⟨_, hv⟩) (fun _ => ⟨rfl, by omega⟩) rfl ?_)
    refine rn ?_
    refine G.ret1 rfl rfl rfl rfl ?_
    refine ⟨fun W hW => ?_, rfl⟩
    have := by_sub hW (i := 0) (j := 1500) (Nat.zero_le _) (by omega)
    simpa using this
  · refine rn ?_
    refine G.ret1 rfl rfl rfl rfl ?_
    exact ⟨fun W hW => by rw [List.take_of_length_le (by omega)]; exact hW, rfl⟩
end Go.Proofs.YtcngoccnfmhhnaaGreatDoor
end
section
namespace Go.Ex

theorem contains_bl (b : UInt8) : ([32, 9] : List UInt8).contains b = blB b := by
  unfold blB
  rw [Bool.eq_iff_iff]
  simp [← UInt8.toNat_inj]
theorem skipB_dw : ∀ l : List UInt8, l.dropWhile blB = skipB l
  | [] => rfl
  | c :: l => by
    have ih := skipB_dw l
    unfold skipB at ih ⊢
    cases h : blB c <;> simp [List.dropWhile, bls, h, ih]
theorem trimLeft_eq (s : List UInt8) : Lib.trimLeftS s [32, 9] = skipB s := by
  unfold Lib.trimLeftS
  rw [← skipB_dw]
  congr 1
  funext b
  exact contains_bl b
/-- without the blanks behind -/
def trimR (l : List UInt8) : List UInt8 := (skipB l.reverse).reverse
theorem trimRight_eq (s : List UInt8) : Lib.trimRightS s [32, 9] = trimR s := by
  unfold Lib.trimRightS trimR
  rw [← skipB_dw]
  congr 2
  funext b
  exact contains_bl b
/-- the text of a HELP -/
def unescP : List UInt8 → List UInt8
  | [] => []
  | [c] => [c]
  | c :: d :: l => if c = 92 ∧ (d = 92 ∨ d = 110) then (if d = 110 then 10 else d) :: unescP l else c :: unescP (d :: l)
def helpW : List UInt8 := [72, 69, 76, 80]
def typeW : List UInt8 := [84, 89, 80, 69]
def kindsL : List (List UInt8) := [[99, 111, 117, 110, 116, 101, 114], [103, 97, 117, 103, 101], [104, 105, 115, 116, 111, 103, 114, 97, 109], [115, 117, 109, 109, 97, 114, 121], [117, 110, 116, 121, 112, 101, 100]]
structure Said where
  word : List UInt8
  name : List UInt8
  rest : List UInt8
/-- what a remark says, behind its # -/
def saysP (metB : List UInt8 → Bool) (s : List UInt8) : Option Said :=
  if bls s = 0 then none else match tokP (skipB s) with
  | none => none
  | some (wd, l1) => if wd ≠ helpW ∧ wd ≠ typeW then none else if bls l1 = 0 then none else match nameP true (skipB l1) with
    | none => none
    | some (nm, l2) => if bls l2 = 0 ∧ l2 ≠ [] then none else if metB nm then some ⟨wd, nm, skipB l2⟩ else none
/-- is it taken? -/
def saidOk (x : Said) : Bool := if x.word = helpW then Lib.validD x.rest else kindsL.contains (trimR x.rest)
/-- what is known of a metric: name, kind, help -/
structure Fam where
  name : List UInt8
  kind : List UInt8
  help : List UInt8
/-- what is said is put down -/
def famSet (x : Said) (f : Fam) : Fam := if x.word = helpW then { f with help := unescP x.rest } else { f with kind := trimR x.rest }
def famPut : List Fam → Said → List Fam
  | [], x => [famSet x ⟨x.name, [], []⟩]
  | f :: l, x => if f.name = x.name then famSet x f :: l else f :: famPut l x
def famAt : List Fam → List UInt8 → Nat
  | [], _ => 0
  | f :: l, n => if f.name = n then 0 else famAt l n + 1
def fam0 (n : List UInt8) : Fam := ⟨n, [], []⟩
/-- with room for a metric -/
def fam1 (l : List Fam) (n : List UInt8) : List Fam := if famAt l n < l.length then l else l ++ [fam0 n]
theorem famAt_le : ∀ (l : List Fam) (n : List UInt8), famAt l n ≤ l.length
  | [], _ => Nat.le_refl _
  | f :: l, n => by
    have := famAt_le l n
    simp only [famAt, List.length_cons]
    split <;> omega
theorem fam1_lt (l : List Fam) (n : List UInt8) : famAt l n < (fam1 l n).length := by
  unfold fam1
  split
  · assumption
  · have := famAt_le l n
    rw [List.length_append, List.length_cons, List.length_nil]; omega
theorem fam1_cons {f : Fam} {l : List Fam} {n : List UInt8} (h : f.name ≠ n) : fam1 (f :: l) n = f :: fam1 l n := by
  unfold fam1
  simp only [famAt, if_neg h, List.length_cons]
  by_cases h1 : famAt l n < l.length
  · rw [if_pos h1, if_pos (by omega)]
  · rw [if_neg h1, if_neg (by omega)]; rfl
theorem famPut_set : ∀ (l : List Fam) (x : Said), famPut l x = (fam1 l x.name).set (famAt l x.name) (famSet x ((fam1 l x.name).getD (famAt l x.name) (fam0 [])))
  | [], x => rfl
  | f :: l, x => by
    by_cases h : f.name = x.name
    · have h0 : famAt (f :: l) x.name = 0 := by simp [famAt, h]
      have h1 : fam1 (f :: l) x.name = f :: l := by unfold fam1; rw [h0, if_pos (by simp)]
      rw [h1, h0]
      simp [famPut, h]
    · have h0 : famAt (f :: l) x.name = famAt l x.name + 1 := by simp [famAt, h]
      rw [fam1_cons h, h0]
      simp only [famPut, if_neg h, List.set_cons_succ, List.getD_cons_succ]
      rw [famPut_set l x]
theorem famAt_app : ∀ (l t : List Fam) (m : List UInt8), famAt l m < l.length → famAt (l ++ t) m = famAt l m
  | [], _, _, h => by simp at h
  | f :: l, t, m, h => by
    by_cases h1 : f.name = m
    · simp [famAt, h1]
    · simp only [List.cons_append, famAt, if_neg h1]
      rw [famAt_app l t m (by simpa [famAt, h1] using h)]
theorem famAt_new : ∀ (l : List Fam) (n m : List UInt8), famAt l m = l.length → famAt (l ++ [fam0 n]) m = if m = n then l.length else l.length + 1
  | [], n, m, _ => by
    simp only [List.nil_append, famAt, List.length_nil, fam0]
    by_cases h : n = m
    · subst h; simp
    · rw [if_neg h, if_neg (fun e => h e.symm)]
  | f :: l, n, m, h => by
    have hf : ¬ f.name = m := fun e => by simp [famAt, e] at h
    have hl : famAt l m = l.length := by simpa [famAt, hf] using h
    simp only [List.cons_append, famAt, if_neg hf, List.length_cons]
    rw [famAt_new l n m hl]
    split <;> rfl
theorem famAt_set : ∀ (l : List Fam) (i : Nat) (f : Fam) (m : List UInt8), (∀ g, l[i]? = some g → g.name = f.name) → famAt (l.set i f) m = famAt l m
  | [], _, _, _, _ => rfl
  | g :: l, 0, f, m, h => by
    have := h g rfl
    simp only [List.set_cons_zero, famAt, this]
  | g :: l, i + 1, f, m, h => by
    have := famAt_set l i f m (fun g hg => h g (by simpa using hg))
    simp only [List.set_cons_succ, famAt, this]
theorem famSet_name (x : Said) (f : Fam) : (famSet x f).name = f.name := by
  unfold famSet; split <;> rfl
theorem famAt_put (l : List Fam) (x : Said) (m : List UInt8) : famAt (famPut l x) m = famAt (fam1 l x.name) m ∧ (famPut l x).length = (fam1 l x.name).length := by
  rw [famPut_set]
  refine ⟨famAt_set _ _ _ _ fun g hg => ?_, by rw [List.length_set]⟩
  rw [famSet_name, List.getD_eq_getElem?_getD, hg]; rfl
end Go.Ex
end
section
namespace Go.Proofs
open Go.Shelf
def Tryz.lays161_ren : Go.Shelf.Ren := ⟨fun | 161 => 26 | 231 => 53 | 227 => 54 | 233 => 55 | 235 => 56 | 228 => 90 | 197 => 91 | 151 => 92 | 260 => 122 | 152 => 123 | 137 => 148 | 119 => 149 | 224 => 84 | 225 => 138 | 217 => 137 | 266 => 157 | n => n, fun | 9 => 9 | 4 => 4 | 3 => 3 | 5 => 5 | 117 => 102 | 116 => 101 | 0 => 0 | 124 => 105 | 105 => 134 | 21 => 21 | 119 => 140 | 46 => 130 | 139 => 143 | 138 => 142 | n => n, fun | 3 => 2 | 4 => 3 | n => n⟩
theorem Tryz.lays161 : Go.Proofs.Lays.n161 Tryz.prog Tryz.lays161_ren := {
  mixed := by kernel_rfl
  f119 := Tryz.func149.trans (congrArg some (by kernel_rfl))
  f137 := Tryz.func148.trans (congrArg some (by kernel_rfl))
  f151 := Tryz.func92.trans (congrArg some (by kernel_rfl))
  f152 := Tryz.func123.trans (congrArg some (by kernel_rfl))
  f161 := Tryz.func26.trans (congrArg some (by kernel_rfl))
  f197 := Tryz.func91.trans (congrArg some (by kernel_rfl))
  f217 := Tryz.func137.trans (congrArg some (by kernel_rfl))
  f224 := Tryz.func84.trans (congrArg some (by kernel_rfl))
  f225 := Tryz.func138.trans (congrArg some (by kernel_rfl))
  f227 := Tryz.func54.trans (congrArg some (by kernel_rfl))
  f228 := Tryz.func90.trans (congrArg some (by kernel_rfl))
  f231 := Tryz.func53.trans (congrArg some (by kernel_rfl))
  f233 := Tryz.func55.trans (congrArg some (by kernel_rfl))
  f235 := Tryz.func56.trans (congrArg some (by kernel_rfl))
  f260 := Tryz.func122.trans (congrArg some (by kernel_rfl))
  f266 := Tryz.func157.trans (congrArg some (by kernel_rfl))
  t0 := Tryz.underlying0
  a0 := Tryz.isAgg0
  z0 := Tryz.sizeOf0
  v0 := Tryz.zeroValue0
  t3 := Tryz.underlying3
  a3 := Tryz.isAgg3
  z3 := Tryz.sizeOf3
  v3 := Tryz.zeroValue3
  t4 := Tryz.underlying4
  a4 := Tryz.isAgg4
  z4 := Tryz.sizeOf4
  v4 := Tryz.zeroValue4
  t5 := Tryz.underlying5
  a5 := Tryz.isAgg5
  z5 := Tryz.sizeOf5
  v5 := Tryz.zeroValue5
  t9 := Tryz.underlying9
  a9 := Tryz.isAgg9
  z9 := Tryz.sizeOf9
  v9 := Tryz.zeroValue9
  t21 := Tryz.underlying21
  a21 := Tryz.isAgg21
  z21 := Tryz.sizeOf21
  v21 := Tryz.zeroValue21
  t46 := Tryz.underlying130
  a46 := Tryz.isAgg130
  z46 := Tryz.sizeOf130
  v46 := Tryz.zeroValue130
  t105 := Tryz.underlying134
  a105 := Tryz.isAgg134
  z105 := Tryz.sizeOf134
  v105 := Tryz.zeroValue134
  t116 := Tryz.underlying101
  a116 := Tryz.isAgg101
  z116 := Tryz.sizeOf101
  t117 := Tryz.underlying102
  a117 := Tryz.isAgg102
  z117 := Tryz.sizeOf102
  v117 := Tryz.zeroValue102
  t119 := Tryz.underlying140
  a119 := Tryz.isAgg140
  z119 := Tryz.sizeOf140
  t124 := Tryz.underlying105
  a124 := Tryz.isAgg105
  z124 := Tryz.sizeOf105
  v124 := Tryz.zeroValue105
  t138 := Tryz.underlying142
  a138 := Tryz.isAgg142
  z138 := Tryz.sizeOf142
  v138 := Tryz.zeroValue142
  t139 := Tryz.underlying143
  a139 := Tryz.isAgg143
  z139 := Tryz.sizeOf143
  v139 := Tryz.zeroValue143
  g3 := by kernel_rfl
  g4 := by kernel_rfl }
def Tryz.lays162_ren : Go.Shelf.Ren := ⟨fun | 162 => 64 | 232 => 97 | 227 => 54 | 234 => 98 | 236 => 99 | 228 => 90 | 271 => 124 | 151 => 92 | 120 => 150 | 197 => 91 | 152 => 123 | 260 => 122 | 137 => 148 | 119 => 149 | 224 => 84 | 225 => 138 | 217 => 137 | 266 => 157 | n => n, fun | 9 => 9 | 4 => 4 | 3 => 3 | 5 => 5 | 117 => 102 | 116 => 101 | 0 => 0 | 124 => 105 | 21 => 21 | 105 => 134 | 46 => 130 | 119 => 140 | 139 => 143 | 138 => 142 | n => n, fun | 3 => 2 | 4 => 3 | n => n⟩
theorem Tryz.lays162 : Go.Proofs.Lays.n162 Tryz.prog Tryz.lays162_ren := {
  mixed := by kernel_rfl
  f119 := Tryz.func149.trans (congrArg some (by kernel_rfl))
  f120 := Tryz.func150.trans (congrArg some (by kernel_rfl))
  f137 := Tryz.func148.trans (congrArg some (by kernel_rfl))
  f151 := Tryz.func92.trans (congrArg some (by kernel_rfl))
  f152 := Tryz.func123.trans (congrArg some (by kernel_rfl))
  f162 := Tryz.func64.trans (congrArg some (by kernel_rfl))
  f197 := Tryz.func91.trans (congrArg some (by kernel_rfl))
  f217 := Tryz.func137.trans (congrArg some (by kernel_rfl))
  f224 := Tryz.func84.trans (congrArg some (by kernel_rfl))
  f225 := Tryz.func138.trans (congrArg some (by kernel_rfl))
  f227 := Tryz.func54.trans (congrArg some (by kernel_rfl))
  f228 := Tryz.func90.trans (congrArg some (by kernel_rfl))
  f232 := Tryz.func97.trans (congrArg some (by kernel_rfl))
  f234 := Tryz.func98.trans (congrArg some (by kernel_rfl))
  f236 := Tryz.func99.trans (congrArg some (by kernel_rfl))
  f260 := Tryz.func122.trans (congrArg some (by kernel_rfl))
  f266 := Tryz.func157.trans (congrArg some (by kernel_rfl))
  f271 := Tryz.func124.trans (congrArg some (by kernel_rfl))
  t0 := Tryz.underlying0
  a0 := Tryz.isAgg0
  z0 := Tryz.sizeOf0
  v0 := Tryz.zeroValue0
  t3 := Tryz.underlying3
  a3 := Tryz.isAgg3
  z3 := Tryz.sizeOf3
  v3 := Tryz.zeroValue3
  t4 := Tryz.underlying4
  a4 := Tryz.isAgg4
  z4 := Tryz.sizeOf4
  v4 := Tryz.zeroValue4
  t5 := Tryz.underlying5
  a5 := Tryz.isAgg5
  z5 := Tryz.sizeOf5
  v5 := Tryz.zeroValue5
  t9 := Tryz.underlying9
  a9 := Tryz.isAgg9
  z9 := Tryz.sizeOf9
  v9 := Tryz.zeroValue9
  t21 := Tryz.underlying21
  a21 := Tryz.isAgg21
  z21 := Tryz.sizeOf21
  v21 := Tryz.zeroValue21
  t46 := Tryz.underlying130
  a46 := Tryz.isAgg130
  z46 := Tryz.sizeOf130
  v46 := Tryz.zeroValue130
  t105 := Tryz.underlying134
  a105 := Tryz.isAgg134
  z105 := Tryz.sizeOf134
  v105 := Tryz.zeroValue134
  t116 := Tryz.underlying101
  a116 := Tryz.isAgg101
  z116 := Tryz.sizeOf101
  t117 := Tryz.underlying102
  a117 := Tryz.isAgg102
  z117 := Tryz.sizeOf102
  v117 := Tryz.zeroValue102
  t119 := Tryz.underlying140
  a119 := Tryz.isAgg140
  z119 := Tryz.sizeOf140
  t124 := Tryz.underlying105
  a124 := Tryz.isAgg105
  z124 := Tryz.sizeOf105
  v124 := Tryz.zeroValue105
  t138 := Tryz.underlying142
  a138 := Tryz.isAgg142
  z138 := Tryz.sizeOf142
  v138 := Tryz.zeroValue142
  t139 := Tryz.underlying143
  a139 := Tryz.isAgg143
  z139 := Tryz.sizeOf143
  v139 := Tryz.zeroValue143
  g3 := by kernel_rfl
  g4 := by kernel_rfl }
end Go.Proofs
end
section
open Go Go.Vg Go.RowKit Go.Proofs Go.Proofs.YtcngoccnfmhhnaaGreatDoor
namespace Go.Proofs.YtcngoccnfmhhnaaGreatDoor
open Go.Ex

theorem ascB : ∀ (j : Nat) b, ([32, 9] : List UInt8)[j]? = some b → b.toNat < 128
  | 0, b, h => by simp at h; subst h; decide
  | 1, b, h => by simp at h; subst h; decide
  | j + 2, b, h => by simp at h
theorem zero101 : ∀ w, (zeroValue 101).run Tryz.prog w = .ok (.agg (Array.replicate 256 (.bool false))) w := fun w => (Tryz.zeroValue101 w).trans (by kernel_rfl)
theorem trimBL_ok (s : List UInt8) (w : World) : Ret Tryz.prog 26 ⟨[S s, S [32, 9]]⟩ w fun r w' => r = S (skipB s) ∧ Ext w w' := by
  by_cases h0 : s = []
  · subst h0
    exact Calls.mono (Any.strings_TrimLeft_empty Tryz.lays161 ⟨⟨[]⟩⟩ ⟨⟨[32, 9]⟩⟩ w (.inl rfl)) fun _ _ ⟨he, hw⟩ => ⟨_, he, rfl, by rw [hw]; exact Ext.refl _⟩
  · refine Calls.mono (Any.strings_TrimLeft_set Tryz.lays161 zero101 (by kernel_rfl) ⟨⟨s⟩⟩ ⟨⟨[32, 9]⟩⟩ w (by decide) (List.length_pos_iff.2 h0) (by decide) ascB) fun _ _ ⟨he, hw⟩ => ⟨_, he, ?_, by rw [hw]; exact (Ext.alloc _ _).trans (Ext.alloc _ _)⟩
    show Value.string ⟨(Lib.trimLeftS s [32, 9]).toArray⟩ = _
    rw [trimLeft_eq]; rfl
theorem trimBR_ok (s : List UInt8) (w : World) (hs : s.length ≤ 1000000000) : Ret Tryz.prog 64 ⟨[S s, S [32, 9]]⟩ w fun r w' => r = S (trimR s) ∧ Ext w w' := by
  by_cases h0 : s = []
  · subst h0
    exact Calls.mono (Any.strings_TrimRight_empty Tryz.lays162 ⟨⟨[]⟩⟩ ⟨⟨[32, 9]⟩⟩ w (.inl rfl)) fun _ _ ⟨he, hw⟩ => ⟨_, he, rfl, by rw [hw]; exact Ext.refl _⟩
  · refine Calls.mono (Any.strings_TrimRight_set Tryz.lays162 zero101 (by kernel_rfl) ⟨⟨s⟩⟩ ⟨⟨[32, 9]⟩⟩ w (by decide) (List.length_pos_iff.2 h0) (by show s.length ≤ _; omega) (by decide) ascB) fun _ _ ⟨he, hw⟩ => ⟨_, he, ?_, by rw [hw]; exact (Ext.alloc _ _).trans (Ext.alloc _ _)⟩
    show Value.string ⟨(Lib.trimRightS s [32, 9]).toArray⟩ = _
    rw [trimRight_eq]; rfl
abbrev metB (s : List UInt8) : Bool := Lab.namedB true s
theorem metric_ok (s : List UInt8) (w : World) (hs : s.length ≤ 1000000000) : Ret Tryz.prog 61 ⟨[S s]⟩ w fun r w' => r = .bool (metB s) ∧ Ext w w' := by
  refine ret_of_G Tryz.func61 rfl Tryz.ntmps61 rfl ?_
  simp only [argEnv]
  refine rn ?_
  refine sCall c95 (Lab.named_ok s true w (by omega)) ?_
  rintro _ W ⟨rfl, hW⟩
  obtain rfl : w = W := hW.symm
  refine rn ?_
  refine G.ret1 rfl rfl rfl rfl ?_
  exact ⟨rfl, Ext.refl _⟩
theorem kinds_ok (w : World) : Ret Tryz.prog 65 ⟨[]⟩ w fun r w' => Owns w' w.heap.size r 9 1 (kindsL.map fun x => [S x]) ∧ Ext w w' := by
  refine ret_of_G Tryz.func65 rfl Tryz.ntmps65 rfl ?_
  simp only [argEnv]
  refine rn ?_
  refine sBs' tb (kindsL.map fun x => [S x]) (fun us W2 ho2 hs2 hx2 => ?_) (hkl := by simp) (hfill := by kernel_rfl)
  refine rn ?_
  refine G.ret1 rfl rfl rfl rfl ?_
  exact ⟨ho2, hx2⟩
end Go.Proofs.YtcngoccnfmhhnaaGreatDoor
end
section
open Go Go.Vg Go.RowKit Go.Proofs Go.Proofs.YtcngoccnfmhhnaaGreatDoor
namespace Go.Proofs.YtcngoccnfmhhnaaGreatDoor
open Go.Ex

theorem unesc_one {s : List UInt8} {i : Nat} (hi : i < s.length) (h : ¬ (s.getD i 0 = 92 ∧ i + 1 < s.length ∧ (s.getD (i + 1) 0 = 92 ∨ s.getD (i + 1) 0 = 110))) : unescP (s.drop i) = s.getD i 0 :: unescP (s.drop (i + 1)) := by
  rw [drop_at hi]
  by_cases h1 : i + 1 < s.length
  · rw [drop_at h1]
    simp only [unescP]
    rw [if_neg (fun hx => h ⟨hx.1, h1, hx.2⟩)]
  · rw [drop_no h1]; rfl
theorem unesc_two {s : List UInt8} {i : Nat} (hi : i + 1 < s.length) (h : s.getD i 0 = 92 ∧ (s.getD (i + 1) 0 = 92 ∨ s.getD (i + 1) 0 = 110)) : unescP (s.drop i) = (if s.getD (i + 1) 0 = 110 then 10 else s.getD (i + 1) 0) :: unescP (s.drop (i + 1 + 1)) := by
  rw [drop_at (show i < s.length by omega), drop_at hi]
  simp only [unescP]
  rw [if_pos h]
set_option maxHeartbeats 1000000 in
theorem unescaped_ok (s : List UInt8) (w : World) (hs : s.length ≤ 1000000000) : Ret Tryz.prog 62 ⟨[S s]⟩ w fun r w' => r = S (unescP s) ∧ Ext w w' := by
  refine ret_of_G Tryz.func62 rfl Tryz.ntmps62 rfl ?_
  simp only [argEnv]
  refine rn ?_
  refine GL.cons (Step.allocE tb rfl rfl rfl rfl ?_)
  have hx1 : Ext w (w.alloc (.cells ⟨[.pointer none, .slice none 0 0]⟩ 92)) := Ext.alloc _ _
  have hb1 : Bld (w.alloc (.cells ⟨[.pointer none, .slice none 0 0]⟩ 92)) w.heap.size w.heap.size [] :=
    .inl ⟨Nat.le_refl _, _, heap_alloc_new _ _, World.ownsRow_nil _ _ _ _, by simp [Value.ownBlock]⟩
  generalize w.alloc (.cells ⟨[.pointer none, .slice none 0 0]⟩ 92) = W1 at hx1 hb1 ⊢
  refine rn ?_
  refine (G.loop (fun i : Nat => [(0, none, S s), (3, none, ptr w.heap.size), (4, none, .int .i64 i)]) (fun i W => Ext w W ∧ i ≤ s.length ∧ ∃ acc, Bld W w.heap.size w.heap.size acc ∧ acc.length ≤ i ∧ unescP s = acc ++ unescP (s.drop i)) (fun i => s.length - i) 0 (by repeat (first | exact Sub.nil _ | refine Sub.cons rfl ?_)) ⟨hx1, by omega, [], hb1, by simp, by simp⟩ ?_)
  clear hb1 hx1
  rintro i W ⟨hx, hi, acc, hb, hal, he⟩
  refine rn ?_
  first | refine G.condD rfl (fun hc => ?_) (fun hc => ?_) | refine G.condN rfl (fun hc => ?_) (fun hc => ?_) | refine G.cond rfl (fun hc => ?_) (fun hc => ?_)
  · have hlt : i < s.length := by omega
    have hone := fun h => unesc_one hlt h
    have htwo := fun h1 h2 => unesc_two (s := s) (i := i) h1 h2
    refine rn ?_
    refine sBs tb i ?_
    refine rn ?_
    refine sAd tb ?_
    refine rn ?_
    refine sAd tb ?_
    refine rn ?_
    refine sBs tb (i + 1) ?_ (hj := fun hc => by simp [cv] at hc; exact ⟨by omega, by omega⟩)
    refine rn ?_
    refine sAd tb ?_
    refine rn ?_
    refine sBs tb (i + 1) ?_ (hj := fun hc => by simp [cv] at hc; exact ⟨by omega, by omega⟩)
    refine rn ?_
    refine G.join (fun x : Nat × UInt8 => [(0, none, S s), (3, none, ptr w.heap.size), (4, none, .int .i64 x.1), (5, none, U x.2)]) (fun x W' => W' = W ∧ i ≤ x.1 ∧ x.1 < s.length ∧ unescP (s.drop i) = x.2 :: unescP (s.drop (x.1 + 1))) ?_ ?_
    · rintro ⟨k, c⟩ W' ⟨rfl, hik, hk, hce⟩
      simp only at hik hk hce ⊢
      refine rn ?_
      refine sCall c51 (wbyte_ok w.heap.size w.heap.size acc c W' hb (by omega) hx.size) ?_
      rintro _ W2 ⟨rfl, hb2, hx2⟩
      refine rn ?_
      refine sAd tb ?_
      refine rn ?_
      exact G.lp (x := i) (k + 1) (by repeat (first | exact Sub.nil _ | refine Sub.cons rfl ?_)) ⟨Below.trans (B := w.heap.size) hx hx2, by omega, acc ++ [c], hb2, by rw [List.length_append, List.length_cons, List.length_nil]; omega, by rw [he, hce]; simp⟩ (by omega)
    · refine G.cond rfl (fun hc => ?_) (fun hc => ?_)
      · simp only [Bool.and_eq_true, Bool.or_eq_true, decide_eq_true_eq] at hc
        have hlt1 : i + 1 < s.length := by omega
        have h2 := htwo hlt1 ⟨by rw [← UInt8.toNat_inj]; show _ = 92; omega, by
          rcases hc.2 with h | h
          · exact .inl (by rw [← UInt8.toNat_inj]; show _ = 92; omega)
          · exact .inr (by rw [← UInt8.toNat_inj]; show _ = 110; omega)⟩
        clear hone htwo
        refine rn ?_
        refine sAd tb ?_
        refine rn ?_
        refine sBs tb (i + 1) ?_
        generalize s.getD (i + 1) 0 = c at h2 ⊢
        refine rn ?_
        first | refine G.condD rfl (fun hc => ?_) (fun hc => ?_) | refine G.condN rfl (fun hc => ?_) (fun hc => ?_) | refine G.cond rfl (fun hc => ?_) (fun hc => ?_)
        · have h110 : c = 110 := by rw [← UInt8.toNat_inj]; show c.toNat = 110; omega
          rw [if_pos h110] at h2
          refine rn ?_
          exact G.met (i + 1, 10) (by repeat (first | exact Sub.nil _ | refine Sub.cons rfl ?_)) ⟨rfl, by show i ≤ i + 1; omega, hlt1, h2⟩
        · have h110 : ¬ c = 110 := by
            intro h; subst h; apply hc; rfl
          rw [if_neg h110] at h2
          refine rn ?_
          exact G.met (i + 1, c) (by repeat (first | exact Sub.nil _ | refine Sub.cons rfl ?_)) ⟨rfl, by show i ≤ i + 1; omega, hlt1, h2⟩
      · have hno : ¬ (s.getD i 0 = 92 ∧ i + 1 < s.length ∧ (s.getD (i + 1) 0 = 92 ∨ s.getD (i + 1) 0 = 110)) := by
          rintro ⟨h1, h2, h3⟩
          rw [h1, decide_eq_true (show (i : Int) + 1 < s.length by omega)] at hc
          rcases h3 with h3 | h3 <;> rw [h3] at hc <;> exact absurd hc (by decide)
        have h1 := hone hno
        refine rn ?_
        exact G.met (i, s.getD i 0) (by repeat (first | exact Sub.nil _ | refine Sub.cons rfl ?_)) ⟨rfl, Nat.le_refl _, hlt, h1⟩
  · obtain rfl : i = s.length := by omega
    rw [List.drop_length] at he
    refine rn ?_
    refine sCall c52 (bstr_ok w.heap.size w.heap.size acc W hb hx.size) ?_
    rintro _ W2 ⟨rfl, hx2⟩
    refine rn ?_
    refine G.ret1 rfl rfl rfl rfl ?_
    exact ⟨by rw [he]; simp [unescP], Below.trans (B := w.heap.size) hx hx2⟩
end Go.Proofs.YtcngoccnfmhhnaaGreatDoor
end
section
open Go Go.Vg Go.RowKit Go.Proofs Go.Proofs.YtcngoccnfmhhnaaGreatDoor
namespace Go.Proofs.YtcngoccnfmhhnaaGreatDoor
open Go.Ex

theorem Rd.kp2 {w w' : World} {rb c : Nat} {s : List UInt8} {i : Nat} (h : Rd w rb s i) (hx : Kp c w w') (hne : rb ≠ c) (hc : 3 < c) : Rd w' rb s i := ⟨h.bx.kp hx hne, h.tabs.kp hx hc, h.hb, h.hi, h.hs⟩
def saidC (x : Said) : List Value := [S x.word, S x.name, S x.rest]
def said0 : List Value := [S [], S [], S []]
theorem said_one {a b c : List UInt8} : ∀ y ∈ [S a, S b, S c], y.oneCell' = true := by
  intro y hy
  simp only [List.mem_cons, List.not_mem_nil, or_false] at hy
  rcases hy with rfl | rfl | rfl <;> rfl
set_option maxHeartbeats 1000000 in
theorem rcatch_ret (w : World) (c0 c1 : Nat) :
    CallsD Tryz.prog 57 ⟨[ptr c0, ptr c1]⟩ .returning w fun en u w' => en = .returned (.tuple #[]) ∧ u = .returning ∧ w' = w := by
  refine calls_catch (v := .nilIface) (S := fun w' => w' = w) Tryz.func57 rfl Tryz.ntmps57 rfl rfl rfl (fun c cs hm => by simp [recoverD, hm]) ?_
  simp only [argEnv]
  refine rn ?_
  refine GL.cons (Step.eqNil tb rfl (Op1.of rfl (by first | exact fun _ => rfl | exact fun h => h | exact fun h => bL h | exact fun h => bL (bL h) | exact fun h => bL (bL (bL h)))) (Op1.of rfl (by first | exact fun _ => rfl | exact fun h => h | exact fun h => bL h | exact fun h => bL (bL h) | exact fun h => bL (bL (bL h)))) rfl rfl ?_)
  refine rn ?_
  exact G.endCatch rfl rfl rfl
set_option maxHeartbeats 1000000 in
theorem rcatch_panic (w : World) (c0 c1 : Nat) (a e : Int) {u0 : List Value} {u1 : Value} (h0 : Bx w c0 u0) (h1 : Bx w c1 [u1]) (hl0 : u0.length = 3) (h01 : c0 < c1) :
    CallsD Tryz.prog 57 ⟨[ptr c0, ptr c1]⟩ (.panicking [{ v := .iface 107 (.agg ⟨[.int .i64 a, .int .i64 e]⟩), recovered := false }]) w fun en u w' => en = .returned (.tuple #[]) ∧ u = .panicking [{ v := .iface 107 (.agg ⟨[.int .i64 a, .int .i64 e]⟩), recovered := true }] ∧
      (Bx w' c0 said0 ∧ Bx w' c1 [.bool false] ∧ Below c0 w w') := by
  refine calls_catch (v := .iface 107 (.agg ⟨[.int .i64 a, .int .i64 e]⟩)) (S := fun w' => Bx w' c0 said0 ∧ Bx w' c1 [.bool false] ∧ Below c0 w w') Tryz.func57 rfl Tryz.ntmps57 rfl rfl rfl (fun c cs hm => by simp [recoverD, hm]) ?_
  simp only [argEnv]
  refine rn ?_
  refine GL.cons (Step.eqIface tb rfl (Op1.of rfl (by first | exact fun _ => rfl | exact fun h => h | exact fun h => bL h | exact fun h => bL (bL h) | exact fun h => bL (bL (bL h)))) (Op1.of rfl (by first | exact fun _ => rfl | exact fun h => h | exact fun h => bL h | exact fun h => bL (bL h) | exact fun h => bL (bL (bL h)))) rfl rfl ?_)
  refine rn ?_
  refine GL.cons (Step.assertT tb rfl (Op1.of rfl (by first | exact fun _ => rfl | exact fun h => h | exact fun h => bL h | exact fun h => bL (bL h) | exact fun h => bL (bL (bL h)))) rfl rfl rfl ?_)
  refine rn ?_
  have h3 := h1.lt
  refine sAl tb (fun W1 hb1 hs1 hx1 => ?_)
  refine rn ?_
  refine sSt tb (fun W2 hb2 hw2 => ?_)
  have hB2 : Below c0 w W2 := (hx1.mono (by omega)).wr hw2 (by omega)
  have hq0 : Bx W2 c0 u0 := (h0.to hx1).wr hw2 (by omega)
  have hq1 : Bx W2 c1 [u1] := (h1.to hx1).wr hw2 (by omega)
  refine rn ?_
  refine sSt tb (fun W3 hb3 hw3 => ?_) (vs := said0) (hv := rfl) (h1 := said_one) (hb := hq0) (hl := hl0)
  have hq1 := hq1.wr hw3 (by omega)
  refine sSt tb (fun W4 hb4 hw4 => ?_) (hb := hq1)
  refine rn ?_
  exact G.endCatch rfl rfl ⟨hb3.wr hw4 (by omega), hb4, (hB2.wr hw3 (by omega)).wr hw4 (by omega)⟩
/-- what a remark gives -/
def RemS (s : List UInt8) (w : World) (r : Value) (w' : World) : Prop :=
  Ext w w' ∧ ((∃ x, saysP metB s = some x ∧ r = .tuple ⟨[.agg ⟨saidC x⟩, .bool true]⟩) ∨ (saysP metB s = none ∧ ∃ a b c, r = .tuple ⟨[.agg ⟨[S a, S b, S c]⟩, .bool false]⟩))
set_option maxHeartbeats 4000000 in
theorem remark_ok (w : World) (s : List UInt8) (hs : s.length ≤ 1000000000) (hT : Tabs w) : Ret Tryz.prog 27 ⟨[S s]⟩ w (RemS s w) := by
  refine ret_of_GDf Tryz.func27 rfl Tryz.ntmps27 rfl ?_
  simp only [argEnv]
  refine rn ?_
  refine sAl tb (fun W1 hb1 hs1 hx1 => ?_)
  refine rn ?_
  refine sAl tb (fun W2 hb2 hs2 hx2 => ?_)
  refine rn ?_
  have e1 : W1.heap.size = w.heap.size + 1 := hs1
  have e2 : W2.heap.size = w.heap.size + 2 := by omega
  have hx02 := hx1.trans hx2
  have hp0 : Bx W2 w.heap.size said0 := hb1.to hx2
  have hp1 : Bx W2 W1.heap.size [.bool false] := hb2
  clear hb1 hb2 hx1 hx2
  have hP : ∀ (W : World) (t : Array Value) (en : Env) (a e : Int) (u0 : List Value) (u1 : Value), Fits 66 en t → Go.Vg.look en 2 = some (none, ptr w.heap.size) → Go.Vg.look en 3 = some (none, ptr W1.heap.size) →
      Bx W w.heap.size u0 → Bx W W1.heap.size [u1] → u0.length = 3 → Ext w W → saysP metB s = none →
      Leaves Tryz.prog Tryz.f27 t (fun en w' => ∃ v, en = .returned v ∧ RemS s w v w') [{ target := .fn (.func 57) ⟨[ptr w.heap.size, ptr W1.heap.size]⟩, args := #[] }] (.panicking [{ v := .iface 107 (.agg ⟨[.int .i64 a, .int .i64 e]⟩), recovered := false }]) W := by
    intro W t en a e u0 u1 hf l2 l3 h0 h1 hl0 hx hE
    refine leaves_panic c57 (rcatch_panic W _ _ a e h0 h1 hl0 (by omega)) ?_
    rintro w' ⟨h4, h5, hB⟩
    exact ⟨_, resCC hf rfl l2 l3 (RV.agg tb h4.cells) (RV.one tb (Bx.c0 h5 rfl)), Below.trans hx hB, .inr ⟨hE, [], [], [], rfl⟩⟩
  refine GL.deferL rfl rfl (Op1.of rfl (by first | exact fun _ => rfl | exact fun h => h | exact fun h => bL h | exact fun h => bL (bL h) | exact fun h => bL (bL (bL h)))) ?_
  refine rn ?_
  refine sBox (fun W3 hb3 hs3 hx3 => ?_)
  refine rn ?_
  have hx03 := hx02.trans hx3
  have hp0 := hp0.to hx3
  have hp1 := hp1.to hx3
  have hr3 : Rd W3 W2.heap.size s 0 := ⟨hb3, hT.to hx03, by have := hT.lt; omega, Nat.zero_le _, hs⟩
  refine sCall c58 (blanks_ok W3 W2.heap.size s 0 hr3) ?_
  rintro _ W4 ⟨rfl, hr4, hk4⟩
  have hp0 := hp0.kp hk4 (by omega)
  have hp1 := hp1.kp hk4 (by omega)
  have hx4 := hx03.ofKp hk4 (by omega)
  have hsk := skipB_drop s 0
  rw [List.drop_zero] at hsk hr4 ⊢
  generalize 0 + bls s = k0 at hr4 hsk
  refine rn ?_
  refine G.cond rfl (fun hc => ?_) (fun hc => ?_)
  · have hno : saysP metB s = none := by
      unfold saysP; rw [if_pos (by simpa using hc)]
    refine rn ?_
    refine sSt tb (fun W5 hb5 hw5 => ?_) (vs := said0) (hv := rfl) (h1 := said_one)
    have hp1 := hp1.wr hw5 (by omega)
    refine sSt tb (fun W6 hb6 hw6 => ?_)
    refine rn ?_
    refine G.ret fun t' hf => ?_
    refine leaves_ret c57 (rcatch_ret W6 _ _) ?_
    rintro w' rfl
    exact ⟨_, resCC hf rfl rfl rfl (RV.agg tb (hb5.wr hw6 (by omega)).cells) (RV.one tb (Bx.c0 hb6 rfl)), (hx4.wr hw5 (by omega)).wr hw6 (by omega), .inr ⟨hno, [], [], [], rfl⟩⟩
  have hsay : saysP metB s = match tokP (s.drop k0) with
      | none => none
      | some (wd, l1) => if wd ≠ helpW ∧ wd ≠ typeW then none else if bls l1 = 0 then none else match nameP true (skipB l1) with
        | none => none
        | some (nm, l2) => if bls l2 = 0 ∧ l2 ≠ [] then none else if metB nm then some ⟨wd, nm, skipB l2⟩ else none := by
    unfold saysP
    rw [if_neg (by simp at hc; omega), hsk]
    try (generalize tokP _ = q; rcases q with _ | ⟨wd, l1⟩ <;> (try rfl) <;> (simp only; generalize nameP _ _ = q; rcases q with _ | ⟨nm, l2⟩ <;> rfl))
  clear hc
  refine rn ?_
  refine GL.callPk c59 (token_ok W4 W2.heap.size s k0 hr4) ?_ ?_
  · rintro ch W' t hf ⟨hn, ⟨a, e, he, rfl⟩, hk⟩
    exact hP W' t _ a e _ _ hf rfl rfl (hp0.kp hk (by omega)) (hp1.kp hk (by omega)) rfl (hx4.ofKp hk (by omega)) (by rw [hsay, hn])
  rintro _ W5 ⟨tk, htk, rfl, hr5, hk5⟩
  have hp0 := hp0.kp hk5 (by omega)
  have hp1 := hp1.kp hk5 (by omega)
  have hx5 := hx4.ofKp hk5 (by omega)
  rw [htk] at hsay
  simp only at hsay
  unfold said0 at hp0
  refine rn ?_
  refine sSf tb (fun W6 hb6 hw6 => ?_)
  have hp1 := hp1.wr hw6 (by omega)
  have h3w : 3 < w.heap.size := hT.lt
  have hr6 := hr5.kp2 hw6.kp (by omega) h3w
  have hx6 : Ext w W6 := hx5.wr hw6 (Nat.le_refl _)
  have hb6 : Bx W6 w.heap.size [S tk, S [], S []] := hb6
  clear hr5 hx5 hp0
  refine rn ?_
  have hbw : (!decide (tk = [72, 69, 76, 80]) && !decide (tk = [84, 89, 80, 69])) = decide (tk ≠ helpW ∧ tk ≠ typeW) := by
    show (!decide (tk = helpW) && !decide (tk = typeW)) = _
    by_cases h1 : tk = helpW <;> by_cases h2 : tk = typeW <;> simp [h1, h2]
  rw [hbw]
  by_cases hw : tk ≠ helpW ∧ tk ≠ typeW
  · rw [decide_eq_true hw]
    have hno : saysP metB s = none := by rw [hsay, if_pos hw]
    refine GL.cons (Step.off (v := .bool false) rfl (of_decide_eq_true rfl) rfl ?_)
    refine rn ?_
    refine sSt tb (fun W7 hb7 hw7 => ?_) (vs := said0) (hv := rfl) (h1 := said_one)
    have hp1 := hp1.wr hw7 (by omega)
    refine sSt tb (fun W8 hb8 hw8 => ?_)
    refine rn ?_
    refine G.ret fun t' hf => ?_
    refine leaves_ret c57 (rcatch_ret W8 _ _) ?_
    rintro w' rfl
    exact ⟨_, resCC hf rfl rfl rfl (RV.agg tb (hb7.wr hw8 (by omega)).cells) (RV.one tb (Bx.c0 hb8 rfl)), (hx6.wr hw7 (by omega)).wr hw8 (by omega), .inr ⟨hno, [], [], [], rfl⟩⟩
  rw [decide_eq_false hw]
  rw [if_neg hw] at hsay
  refine GL.cons (Step.on rfl rfl (Step.callO rfl rfl (by repeat (first | exact OpL.nil | refine OpL.cons (Op1.of rfl (by first | exact fun _ => rfl | exact fun h => h | exact fun h => bL h | exact fun h => bL (bL h) | exact fun h => bL (bL (bL h)))) ?_)) c58 rfl (blanks_ok W6 W2.heap.size s (k0 + tk.length) hr6) ?_))
  rintro _ W7 ⟨rfl, hr7, hk7⟩
  have hb7 := hb6.kp hk7 (by omega)
  have hp1 := hp1.kp hk7 (by omega)
  have hx7 := hx6.ofKp hk7 (by omega)
  have hsk1 := skipB_drop s (k0 + tk.length)
  rw [hsk1] at hsay
  generalize k0 + tk.length + bls (s.drop (k0 + tk.length)) = k1 at hr7 hsk1 hsay
  generalize bls (s.drop (k0 + tk.length)) = n1 at hsay ⊢
  clear hb6 hr6 hx6
  refine rn ?_
  refine G.cond rfl (fun hc => ?_) (fun hc => ?_)
  · have hno : saysP metB s = none := by rw [hsay, if_pos (by simpa using hc)]
    refine rn ?_
    refine sSt tb (fun W8 hb8 hw8 => ?_) (vs := said0) (hv := rfl) (h1 := said_one)
    have hp1 := hp1.wr hw8 (by omega)
    refine sSt tb (fun W9 hb9 hw9 => ?_)
    refine rn ?_
    refine G.ret fun t' hf => ?_
    refine leaves_ret c57 (rcatch_ret W9 _ _) ?_
    rintro w' rfl
    exact ⟨_, resCC hf rfl rfl rfl (RV.agg tb (hb8.wr hw9 (by omega)).cells) (RV.one tb (Bx.c0 hb9 rfl)), (hx7.wr hw8 (by omega)).wr hw9 (by omega), .inr ⟨hno, [], [], [], rfl⟩⟩
  have hn1 : ¬ n1 = 0 := by simp at hc; omega
  rw [if_neg hn1] at hsay
  clear hc
  refine rn ?_
  refine GL.callPk c60 (name_ok true W7 W2.heap.size s k1 hr7) ?_ ?_
  · rintro ch W' t hf ⟨hn, ⟨a, e, he, rfl⟩, hk⟩
    exact hP W' t _ a e _ _ hf rfl rfl (hb7.kp hk (by omega)) (hp1.kp hk (by omega)) rfl (hx7.ofKp hk (by omega)) (by rw [hsay, hn])
  rintro _ W8 ⟨nm, hnm, rfl, hr8, hk8⟩
  have hb8 := hb7.kp hk8 (by omega)
  have hp1 := hp1.kp hk8 (by omega)
  have hx8 := hx7.ofKp hk8 (by omega)
  rw [hnm] at hsay
  simp only at hsay
  clear hb7 hr7 hx7
  refine rn ?_
  refine sSf tb (fun W9 hb9 hw9 => ?_)
  have hp1 := hp1.wr hw9 (by omega)
  have hr9 := hr8.kp2 hw9.kp (by omega) h3w
  have hx9 : Ext w W9 := hx8.wr hw9 (Nat.le_refl _)
  have hb9 : Bx W9 w.heap.size [S tk, S nm, S []] := hb9
  clear hr8 hx8 hb8
  have hsk2 := skipB_drop s (k1 + nm.length)
  have hr9d := hr9.to (Ext.drew W9)
  have hb9d := hb9.to (Ext.drew W9)
  have hp1d := hp1.to (Ext.drew W9)
  have hx9d := hx9.trans (Ext.drew W9)
  refine rn ?_
  refine G.join (fun x : Bool => [(2, none, ptr w.heap.size), (3, none, ptr W1.heap.size), (4, none, ptr W2.heap.size), (50, none, .bool x)]) (fun x W => Rd W W2.heap.size s (k1 + nm.length + bls (s.drop (k1 + nm.length))) ∧ Bx W w.heap.size [S tk, S nm, S []] ∧ Bx W W1.heap.size [.bool false] ∧ Ext w W ∧ x = decide (bls (s.drop (k1 + nm.length)) = 0 ∧ s.drop (k1 + nm.length) ≠ [])) ?_ ?_
  · clear hr9d hb9d hp1d hx9d hr9 hb9 hp1 hx9
    rintro x W ⟨hr, hb, hp, hx, hxe⟩
    rw [hsk2] at hsay
    generalize k1 + nm.length + bls (s.drop (k1 + nm.length)) = k2 at hr hsk2 hsay
    cases x
    · have hok : ¬ (bls (s.drop (k1 + nm.length)) = 0 ∧ s.drop (k1 + nm.length) ≠ []) := fun h => by rw [decide_eq_true h] at hxe; cases hxe
      rw [if_neg hok] at hsay
      have hkl := hr.hi
      have hrd := hr.to (Ext.drew W)
      have hbd := hb.to (Ext.drew W)
      have hpd := hp.to (Ext.drew W)
      have hxd := hx.trans (Ext.drew W)
      have hbxd := hrd.bx
      refine rn ?_
      refine G.regionM [(0, true), (1, true), (2, true), (3, true), (4, true), (5, true), (6, true), (7, true), (8, true), (9, true), (10, false)] (fun w' => Bx w' W2.heap.size [S s, .int .i64 (k2 : Nat)]) (by kernel_rfl) (by kernel_rfl) rfl mixed (hbxd) rfl ?_
      refine rd ?_
      refine GM.read (fun w' hS => Step.load1 tb rfl (Op1.of rfl (by first | exact fun _ => rfl | exact fun h => h | exact fun h => bL h | exact fun h => bL (bL h) | exact fun h => bL (bL (bL h)))) rfl rfl (fun _ => Bx.c0 hS rfl) rfl ⟨rfl, rfl⟩) rfl rfl ?_
      refine rd ?_
      refine GM.read (fun w' hS => Step.load1 tb rfl (Op1.of rfl (by first | exact fun _ => rfl | exact fun h => h | exact fun h => bL h | exact fun h => bL (bL h) | exact fun h => bL (bL (bL h)))) rfl rfl (fun _ => Bx.ci hS (by exact rfl)) rfl ⟨rfl, rfl⟩) rfl rfl ?_
      refine rd ?_
      refine GM.read (fun w' hS => Step.sliceSl tb k2 rfl (Op1.of rfl (by first | exact fun _ => rfl | exact fun h => h | exact fun h => bL h | exact fun h => bL (bL h) | exact fun h => bL (bL (bL h)))) (Op1.of rfl (by first | exact fun _ => rfl | exact fun h => h | exact fun h => bL h | exact fun h => bL (bL h) | exact fun h => bL (bL (bL h)))) rfl (fun _ => ⟨rfl, by omega⟩) rfl ⟨rfl, rfl⟩) rfl rfl ?_
      refine rd ?_
      refine GM.eff (Step.store tb rfl (Op1.of rfl (by first | exact fun _ => rfl | exact fun h => h | exact fun h => bL h | exact fun h => bL (bL h) | exact fun h => bL (bL (bL h)))) (Op1.of rfl (by first | exact fun _ => rfl | exact fun h => h | exact fun h => bL h | exact fun h => bL (bL h) | exact fun h => bL (bL (bL h)))) rfl rfl rfl (by simp [Value.oneCell', S]) hbd (by exact of_decide_eq_true rfl) ?_)
      intro W7 hb7 hw7
      refine ⟨hbxd.wr hw7 (by omega), ?_⟩
      refine GM.nil ?_
      have hb7 : Bx W7 w.heap.size [S tk, S nm, S (s.drop k2)] := hb7
      have hp7 := hpd.wr hw7 (by omega)
      have hx7 : Ext w W7 := hxd.wr hw7 (by omega)
      have hnl := nameP_len hnm
      have hlen : nm.length ≤ 1000000000 := by
        simp only [List.length_drop] at hnl
        omega
      have hb8 := hb7.to (Ext.drew W7)
      have hp8 := hp7.to (Ext.drew W7)
      have hx8 := hx7.trans (Ext.drew W7)
      refine rn ?_
      refine G.regionM [(0, true), (1, true), (2, true), (3, false), (4, false), (5, false)] (fun w' => Bx w' w.heap.size [S tk, S nm, S (s.drop k2)]) (by kernel_rfl) (by kernel_rfl) rfl mixed (hb8) rfl ?_
      refine GM.read (fun w' hS => Step.loadA tb rfl (Op1.of rfl (by first | exact fun _ => rfl | exact fun h => h | exact fun h => bL h | exact fun h => bL (bL h) | exact fun h => bL (bL (bL h)))) rfl rfl rfl (fun hc => Bx.cells hS) (fun _ => rfl) rfl ⟨rfl, rfl⟩) rfl rfl ?_
      refine rd ?_
      refine GM.read (fun w' hS => Step.load1 tb rfl (Op1.of rfl (by first | exact fun _ => rfl | exact fun h => h | exact fun h => bL h | exact fun h => bL (bL h) | exact fun h => bL (bL (bL h)))) rfl rfl (fun _ => Bx.ci hS (by exact rfl)) rfl ⟨rfl, rfl⟩) rfl rfl ?_
      refine rd ?_
      refine GM.eff (Step.callF rfl rfl rfl c61 rfl (metric_ok nm W7.drew hlen) ?_)
      rintro _ W10 ⟨rfl, hx10⟩
      have hb10 := hb8.to hx10
      have hp10 := hp8.to hx10
      have hx010 := hx8.trans hx10
      refine ⟨hb10, ?_⟩
      refine rd ?_
      refine GM.eff (Step.store0 (vs := [S tk, S nm, S (s.drop k2)]) tb rfl (Op1.of rfl (by first | exact fun _ => rfl | exact fun h => h | exact fun h => bL h | exact fun h => bL (bL h) | exact fun h => bL (bL (bL h)))) (Op1.of rfl (by first | exact fun _ => rfl | exact fun h => h | exact fun h => bL h | exact fun h => bL (bL h) | exact fun h => bL (bL (bL h)))) rfl rfl rfl said_one hb10 rfl ?_)
      intro Wa hba hwa
      have hp10 := hp10.wr hwa (by omega)
      refine ⟨hba, ?_⟩
      refine GM.eff (Step.store0 tb rfl (Op1.of rfl (by first | exact fun _ => rfl | exact fun h => h | exact fun h => bL h | exact fun h => bL (bL h) | exact fun h => bL (bL (bL h)))) (Op1.of rfl (by first | exact fun _ => rfl | exact fun h => h | exact fun h => bL h | exact fun h => bL (bL h) | exact fun h => bL (bL (bL h)))) rfl rfl rfl (by simp [Value.oneCell']) hp10 rfl ?_)
      intro Wb hbb hwb
      have hba := hba.wr hwb (by omega)
      refine ⟨hba, ?_⟩
      refine rd ?_
      refine GM.nil ?_
      refine G.ret fun t' hf => ?_
      refine leaves_ret c57 (rcatch_ret Wb _ _) ?_
      rintro w' rfl
      refine ⟨_, resCC hf rfl rfl rfl (RV.agg tb hba.cells) (RV.one tb (Bx.c0 hbb rfl)), (hx010.wr hwa (by omega)).wr hwb (by omega), ?_⟩
      cases hm : metB nm
      · rw [hm] at hsay
        exact .inr ⟨hsay, tk, nm, s.drop k2, rfl⟩
      · rw [hm] at hsay
        exact .inl ⟨⟨tk, nm, s.drop k2⟩, hsay, rfl⟩
    · have hbad : bls (s.drop (k1 + nm.length)) = 0 ∧ s.drop (k1 + nm.length) ≠ [] := of_decide_eq_true hxe.symm
      rw [if_pos hbad] at hsay
      refine rn ?_
      refine sSt tb (fun W7 hb7 hw7 => ?_) (vs := said0) (hv := rfl) (h1 := said_one)
      have hp := hp.wr hw7 (by omega)
      refine sSt tb (fun W8 hb8 hw8 => ?_)
      refine rn ?_
      refine G.ret fun t' hf => ?_
      refine leaves_ret c57 (rcatch_ret W8 _ _) ?_
      rintro w' rfl
      exact ⟨_, resCC hf rfl rfl rfl (RV.agg tb (hb7.wr hw8 (by omega)).cells) (RV.one tb (Bx.c0 hb8 rfl)), (hx.wr hw7 (by omega)).wr hw8 (by omega), .inr ⟨hsay, [], [], [], rfl⟩⟩
  · by_cases h0 : bls (s.drop (k1 + nm.length)) = 0
    · have hbxd := hr9d.bx
      have hkl := hr9d.hi
      refine G.regionM [(0, true), (1, false), (2, true), (3, true), (4, true), (5, true), (6, true), (7, true), (8, true), (9, true), (10, true), (11, true), (12, true), (13, true), (14, true)] (fun w' => Bx w' W2.heap.size [S s, .int .i64 ((k1 + nm.length : Nat) : Int)]) (by kernel_rfl) (by kernel_rfl) rfl mixed (hbxd) rfl ?_
      refine rd ?_
      refine GM.eff (Step.callF rfl rfl rfl c58 rfl (blanks_ok W9.drew W2.heap.size s (k1 + nm.length) hr9d) ?_)
      rintro _ W10 ⟨rfl, hr10, hk10⟩
      have hbx10 := hr10.bx
      rw [h0, Nat.add_zero] at hbx10
      refine ⟨hbx10, ?_⟩
      rw [h0]
      refine rd ?_
      refine GM.read (fun w' hS => Step.load1 tb rfl (Op1.of rfl (by first | exact fun _ => rfl | exact fun h => h | exact fun h => bL h | exact fun h => bL (bL h) | exact fun h => bL (bL (bL h)))) rfl rfl (fun _ => Bx.ci hS (by exact rfl)) rfl ⟨rfl, rfl⟩) rfl rfl ?_
      refine rd ?_
      refine GM.read (fun w' hS => Step.load1 tb rfl (Op1.of rfl (by first | exact fun _ => rfl | exact fun h => h | exact fun h => bL h | exact fun h => bL (bL h) | exact fun h => bL (bL (bL h)))) rfl rfl (fun _ => Bx.c0 hS rfl) rfl ⟨rfl, rfl⟩) rfl rfl ?_
      refine rd ?_
      refine GM.nil ?_
      rw [h0] at hr10
      refine G.met _ (by repeat (first | exact Sub.nil _ | refine Sub.cons rfl ?_)) ⟨hr10, hb9d.kp hk10 (by omega), hp1d.kp hk10 (by omega), hx9d.ofKp hk10 (by omega), ?_⟩
      by_cases hlt : k1 + nm.length < s.length
      · rw [decide_eq_true (show ((k1 + nm.length : Nat) : Int) < s.length by omega), decide_eq_true (show 0 = 0 ∧ s.drop (k1 + nm.length) ≠ [] from ⟨rfl, by rw [drop_at hlt]; simp⟩)]
        rfl
      · rw [decide_eq_false (show ¬ ((k1 + nm.length : Nat) : Int) < s.length by omega), decide_eq_false (show ¬ (0 = 0 ∧ s.drop (k1 + nm.length) ≠ []) from fun h => h.2 (drop_no hlt))]
        rfl
    · refine G.regionM [(0, true), (1, false), (2, true), (3, true), (4, true), (5, true), (6, true), (7, true), (8, true), (9, true), (10, true), (11, true), (12, true), (13, true), (14, true)] (fun _ => True) (by kernel_rfl) (by kernel_rfl) rfl mixed (trivial) rfl ?_
      refine rd ?_
      refine GM.eff (Step.callF rfl rfl rfl c58 rfl (blanks_ok W9.drew W2.heap.size s (k1 + nm.length) hr9d) ?_)
      rintro _ W10 ⟨rfl, hr10, hk10⟩
      refine ⟨trivial, ?_⟩
      rw [decide_eq_true (show 0 < bls (s.drop (k1 + nm.length)) by omega)]
      refine rd ?_
      refine GM.read (fun w' hS => Step.off (v := .int .i64 0) rfl (of_decide_eq_true rfl) rfl ⟨rfl, rfl⟩) rfl rfl ?_
      refine rd ?_
      refine GM.read (fun w' hS => Step.off (v := S []) rfl (of_decide_eq_true rfl) rfl ⟨rfl, rfl⟩) rfl rfl ?_
      refine rd ?_
      refine GM.nil ?_
      refine G.met _ (by repeat (first | exact Sub.nil _ | refine Sub.cons rfl ?_)) ⟨hr10, hb9d.kp hk10 (by omega), hp1d.kp hk10 (by omega), hx9d.ofKp hk10 (by omega), ?_⟩
      rw [decide_eq_false (show ¬ (bls (s.drop (k1 + nm.length)) = 0 ∧ s.drop (k1 + nm.length) ≠ []) from fun h => h0 h.1)]
      rfl
end Go.Proofs.YtcngoccnfmhhnaaGreatDoor
end
section
open Go Go.Vg Go.RowKit Go.Proofs Go.Proofs.YtcngoccnfmhhnaaGreatDoor
namespace Go.Proofs.YtcngoccnfmhhnaaGreatDoor
open Go.Ex

def famC (f : Fam) : List Value := [S f.name, S f.kind, S f.help]
def FamM (es : TV) (fams : List Fam) : Prop := ∀ m, vget es m = if famAt fams m < fams.length then some (.int .i64 (famAt fams m : Nat)) else none
theorem FamM.new {es : TV} {fams : List Fam} {n : List UInt8} (h : FamM es fams) (hn : famAt fams n = fams.length) : FamM (vput es n (.int .i64 (fams.length : Nat))) (fams ++ [fam0 n]) := by
  intro m
  have hl : (fams ++ [fam0 n]).length = fams.length + 1 := by simp
  rw [hl]
  by_cases hm : m = n
  · subst hm
    rw [vget_same, famAt_new fams m m hn, if_pos rfl, if_pos (by omega)]
  · rw [vget_other _ _ _ _ hm, h m]
    by_cases h1 : famAt fams m < fams.length
    · rw [if_pos h1, famAt_app fams _ m h1, if_pos (by omega)]
    · have := famAt_le fams m
      rw [if_neg h1, famAt_new fams n m (by omega), if_neg hm, if_neg (by omega)]
theorem FamM.put {es : TV} {fams : List Fam} {x : Said} (h : FamM es (fam1 fams x.name)) : FamM es (famPut fams x) := by
  intro m
  have h1 := famAt_put fams x m
  rw [h m, h1.1, h1.2]
/-- what is known of metrics, in memory -/
structure FamS (W : World) (fb mb B : Nat) (fv : Value) (fams : List Fam) : Prop where
  bx : Bx W fb [fv, .map (some mb)]
  ow : Owns W B fv 74 3 (fams.map famC)
  mp : ∃ es, Mv W mb es ∧ FamM es fams
  hf : fb < B
  hm : mb < B
  hfm : fb ≠ mb
theorem FamS.same {W W' : World} {fb mb B : Nat} {fv : Value} {fams : List Fam} (h : FamS W fb mb B fv fams) (h1 : W'.heap[fb]? = W.heap[fb]?) (h2 : W'.heap[mb]? = W.heap[mb]?) (h3 : ∀ g, fv.ownBlock = some g → W'.heap[g]? = W.heap[g]?) : FamS W' fb mb B fv fams := by
  obtain ⟨es, hm, he⟩ := h.mp
  refine ⟨h.bx.same h1, h.ow.same fun b _ e => h3 b e, ⟨es, hm.kept h2, he⟩, h.hf, h.hm, h.hfm⟩
theorem FamS.to {W W' : World} {fb mb B : Nat} {fv : Value} {fams : List Fam} (h : FamS W fb mb B fv fams) (hx : Ext W W') : FamS W' fb mb B fv fams := by
  obtain ⟨es, hm, _⟩ := h.mp
  exact h.same (hx.block _ h.bx.lt) (hx.block _ hm.lt) fun g hg => hx.block _ (h.ow.lt g hg).2
/-- the blocks that are not of what is known of metrics -/
def Off (fb mb : Nat) (fv : Value) (n b : Nat) : Prop := b < n ∧ b ≠ fb ∧ b ≠ mb ∧ fv.ownBlock ≠ some b
theorem Tabs.off {w W : World} {fb mb B : Nat} {fv : Value} {fams : List Fam} (hT : Tabs w) (h : FamS w fb mb B fv fams) (hk : Kq (Off fb mb fv w.heap.size) w W) (h3f : 3 < fb) (h3m : 3 < mb) (h3B : 3 < B) : Tabs W := by
  have hlt := hT.lt
  have ho : ∀ b, b ≤ 3 → Off fb mb fv w.heap.size b := fun b hb => ⟨by omega, by omega, by omega, fun e => by have := (h.ow.lt b e).1; omega⟩
  have cl : ∀ {a : Addr} {u : Value}, a.block ≤ 3 → w.cell? a = some u → W.cell? a = some u := by
    intro a u ha hu
    unfold World.cell? at hu ⊢
    rw [hk.same a.block (by omega) (ho _ ha)]; exact hu
  exact ⟨fun c hc => cl (by show 2 ≤ 3; omega) (hT.1 c hc), fun i hi => ⟨cl (by show 3 ≤ 3; omega) (hT.2 i hi).1, cl (by show 3 ≤ 3; omega) (hT.2 i hi).2⟩⟩
theorem famC_set (fams : List Fam) (x : Said) (off : Nat) (u : List UInt8) (h : ∀ f, famC (famSet x f) = (famC f).set off (S u)) : ((fam1 fams x.name).map famC).set (famAt fams x.name) ((((fam1 fams x.name).map famC).getD (famAt fams x.name) []).set off (S u)) = (famPut fams x).map famC := by
  have hlt := fam1_lt fams x.name
  rw [famPut_set, List.map_set, h]
  congr 2
  rw [List.getD_eq_getElem?_getD, List.getElem?_map, List.getD_eq_getElem?_getD, List.getElem?_eq_getElem hlt]
  rfl
set_option maxHeartbeats 4000000 in
theorem takes_ok (w : World) (fb mb B : Nat) (fv : Value) (fams : List Fam) (x : Said) (h : FamS w fb mb B fv fams) (hB : B ≤ w.heap.size) (hl : fams.length ≤ 1000000000) (hr : x.rest.length ≤ 1000000000) (hT : Tabs w) (h3f : 3 < fb) (h3m : 3 < mb) :
    Ret Tryz.prog 28 ⟨[ptr fb, .agg ⟨saidC x⟩]⟩ w fun r w' => r = .bool (saidOk x) ∧ Kq (Off fb mb fv w.heap.size) w w' ∧ (saidOk x = true → ∃ fv', FamS w' fb mb B fv' (famPut fams x) ∧ ∀ g, fv'.ownBlock = some g → fv.ownBlock = some g ∨ w.heap.size ≤ g) := by
  have hfl := h.bx.lt
  have hfB := h.hf
  have hmB := h.hm
  have hfm := h.hfm
  obtain ⟨es, hes, hM⟩ := h.mp
  refine ret_of_G Tryz.func28 rfl Tryz.ntmps28 rfl ?_
  simp only [argEnv]
  refine rn ?_
  refine sBox (fun W1 hb1 hs1 hx1 => ?_)
  obtain ⟨xb, hxb⟩ : ∃ xb, xb = w.heap.size := ⟨_, rfl⟩
  rw [← hxb] at hb1 hs1 ⊢
  have h1 := h.to hx1
  have hes1 := hes.to hx1
  have hfx1 := h1.bx
  unfold saidC at hb1
  refine rn ?_
  refine G.regionM [(0, true), (1, true), (2, true), (3, true), (4, true), (5, true), (6, false), (7, true), (8, true), (9, true), (10, true), (11, true)] (Ext W1) (by kernel_rfl) (by kernel_rfl) rfl mixed (Ext.drew W1) rfl ?_
  refine rd ?_
  refine GM.eff (Step.lookupMV tb rfl (Op1.of rfl (by first | exact fun _ => rfl | exact fun h => h | exact fun h => bL h | exact fun h => bL (bL h) | exact fun h => bL (bL (bL h)))) (Op1.of rfl (by first | exact fun _ => rfl | exact fun h => h | exact fun h => bL h | exact fun h => bL (bL h) | exact fun h => bL (bL (bL h)))) rfl rfl rfl (fun _ => hes1.to (Ext.drew W1)) rfl ⟨Ext.drew W1, ?_⟩)
  have hv := hM x.name
  have hbd := hb1.to (Ext.drew W1)
  have hd := h1.to (Ext.drew W1)
  have hx1d := hx1.trans (Ext.drew W1)
  have hesd := hes1.to (Ext.drew W1)
  have hszd : W1.drew.heap.size = xb + 1 := hs1
  clear hfx1 h1 hes1 hb1 hx1 hs1
  generalize W1.drew = W2 at hbd hd hx1d hesd hszd ⊢
  have hnot : (vget es x.name).isSome = decide (famAt fams x.name < fams.length) := by
    rw [hv]; by_cases hin : famAt fams x.name < fams.length
    · rw [if_pos hin, decide_eq_true hin]; rfl
    · rw [if_neg hin, decide_eq_false hin]; rfl
  rw [hnot]
  refine rd ?_
  refine GM.nil ?_
  have hfmle := famAt_le fams x.name
  have hkq2 : Kq (Off fb mb fv w.heap.size) w W2 := hx1d.kq
  have hxl : xb < W2.heap.size := by omega
  have hxfb : xb ≠ fb := by omega
  have hmlt := hes.lt
  have hxmb : xb ≠ mb := by omega
  refine rn ?_
  refine G.join (fun fv' : Value => [(0, none, ptr fb), (3, none, ptr xb), (4, none, .bool false), (5, none, .int .i64 (famAt fams x.name : Nat))]) (fun fv' W => FamS W fb mb B fv' (fam1 fams x.name) ∧ Bx W xb [S x.word, S x.name, S x.rest] ∧ Kq (Off fb mb fv w.heap.size) w W ∧ xb < W.heap.size ∧ fv'.ownBlock ≠ some xb ∧ ∀ g, fv'.ownBlock = some g → fv.ownBlock = some g ∨ w.heap.size ≤ g) ?_ ?_
  · rintro fv' W ⟨hfs, hbx, hk, hxl, hox, hown⟩
    clear hkq2 hd hbd hx1d hesd hszd hnot
    have hfx := hfs.bx
    have hfo := hfs.ow
    have hlt := fam1_lt fams x.name
    have hll : ((fam1 fams x.name).map famC).length = (fam1 fams x.name).length := by simp
    obtain ⟨es1, hm1, hM1⟩ := hfs.mp
    obtain ⟨a, fc, rfl⟩ : ∃ a fc, fv' = .slice (some a) ((fam1 fams x.name).map famC).length fc := by
      rcases hfo.sli with ⟨_, h0⟩ | ⟨a, fc, rfl, _⟩
      · have := congrArg List.length h0
        rw [hll] at this
        simp only [List.length_nil] at this
        omega
      · exact ⟨a, fc, rfl⟩
    have hslv := hfo.sli
    have hll2 : (fam1 fams x.name).length ≤ fams.length + 1 := by unfold fam1; split <;> simp
    have hgoff : ∀ g, (Value.slice (some a) ((fam1 fams x.name).map famC).length fc).ownBlock = some g → ¬ Off fb mb fv w.heap.size g := fun g hg hP => by
      rcases hown g hg with h | h
      · exact hP.2.2.2 h
      · have := hP.1; omega
    refine rn ?_
    first | refine G.condD rfl (fun hc => ?_) (fun hc => ?_) | refine G.condN rfl (fun hc => ?_) (fun hc => ?_) | refine G.cond rfl (fun hc => ?_) (fun hc => ?_)
    · have hword : x.word = helpW := hc
      have hset : ∀ f, famC (famSet x f) = (famC f).set 2 (S (unescP x.rest)) := fun f => by unfold famSet; rw [if_pos hword]; rfl
      have hsok : saidOk x = Lib.validD x.rest := by unfold saidOk; rw [if_pos hword]
      have hfxd := hfx.to (Ext.drew W)
      have hbxd := hbx.to (Ext.drew W)
      refine rn ?_
      refine G.regionM [(0, true), (1, true), (2, true), (3, true), (4, true), (5, true), (6, true), (7, false), (8, true), (9, true), (10, false)] (fun w' => Bx w' fb [.slice (some a) ((fam1 fams x.name).map famC).length fc, .map (some mb)] ∧ Bx w' xb [S x.word, S x.name, S x.rest]) (by kernel_rfl) (by kernel_rfl) rfl mixed (⟨hfxd, hbxd⟩) rfl ?_
      refine rd ?_
      refine dLd tb (u := .slice (some a) ((fam1 fams x.name).map famC).length fc) ?_ (hc := fun w' hS _ => Bx.c0 hS.1 rfl)
      refine rd ?_
      refine dLd tb (u := S x.rest) ?_ (hc := fun w' hS _ => Bx.ci (i := 2) hS.2 (by exact rfl))
      refine rd ?_
      refine GM.eff (Step.callF rfl rfl rfl c62 rfl (unescaped_ok x.rest W.drew hr) ?_)
      rintro _ W2 ⟨rfl, hx2⟩
      have hfx2 := hfxd.to hx2
      have hbx2 := hbxd.to hx2
      have hx2 := (Ext.drew W).trans hx2
      refine ⟨⟨hfx2, hbx2⟩, ?_⟩
      refine rd ?_
      refine dIa tb (famAt fams x.name) ?_
      refine rd ?_
      have ho2 := hfo.to hx2
      refine GM.eff (Step.storeRowF tb (j := famAt fams x.name) (off := 2) rfl (Op1.of rfl (by first | exact fun _ => rfl | exact fun h => h | exact fun h => bL h | exact fun h => bL (bL h) | exact fun h => bL (bL (bL h)))) (Op1.of rfl (by first | exact fun _ => rfl | exact fun h => h | exact fun h => bL h | exact fun h => bL (bL h) | exact fun h => bL (bL (bL h)))) rfl rfl rfl ho2 (by rw [hll]; exact hlt) (by decide) ?_)
      intro W3 ho3 hg3
      have hnfb := ho2.ne hfB
      have hfx3 := hfx2.grew hg3 hnfb
      have hbx3 := hbx2.grew hg3 (fun e => hox e.symm)
      refine ⟨⟨hfx3, hbx3⟩, ?_⟩
      refine GM.nil ?_
      rw [famC_set fams x 2 _ hset] at ho3
      have hm3 := (hm1.to hx2).below hg3.bl hmB
      have hk3 : Kq (Off fb mb fv w.heap.size) w W3 := (hk.trans hx2.kq).trans (hg3.kq hgoff)
      have hT3' : Tabs W3 := hT.off h hk3 h3f h3m (by omega)
      refine rn ?_
      refine sCall c63 (validS_ok x.rest W3 (by omega) hT3') ?_
      rintro _ W4 ⟨rfl, hx4⟩
      refine rn ?_
      refine G.ret1 rfl rfl rfl rfl ?_
      subst hxb
      refine ⟨by rw [hsok], hk3.trans hx4.kq, fun _ => ⟨_, (FamS.mk hfx3 ho3 ⟨es1, hm3, hM1.put⟩ hfB hmB hfm).to hx4, hown⟩⟩
    · have hword : ¬ x.word = helpW := hc
      have hset : ∀ f, famC (famSet x f) = (famC f).set 1 (S (trimR x.rest)) := fun f => by unfold famSet; rw [if_neg hword]; rfl
      have hsok : saidOk x = kindsL.contains (trimR x.rest) := by unfold saidOk; rw [if_neg hword]
      refine rn ?_
      refine sCall c64 (trimBR_ok x.rest W hr) ?_
      rintro _ W2 ⟨rfl, hx2⟩
      have hs2 := hfs.to hx2
      have hbx2 := hbx.to hx2
      have hk2 := hk.trans hx2.kq
      have hm2 := hm1.to hx2
      refine rn ?_
      refine sCall c65 (kinds_ok W2) ?_
      rintro kv W3 ⟨hkv, hx3⟩
      have hs3 := hs2.to hx3
      have hk3 := hk2.trans hx3.kq
      have hm3 := hm2.to hx3
      have hksl := hkv.sli
      have hkl : (kindsL.map fun x => [S x]).length = 5 := rfl
      clear hs2 hk2 hm2 hbx2
      refine rn ?_
      refine (G.loop (fun j : Nat => [(0, none, ptr fb), (4, none, .bool false), (5, none, .int .i64 (famAt fams x.name : Nat)), (7, none, S (trimR x.rest)), (65, none, kv), (66, none, .int .i64 (kindsL.map fun x => [S x]).length), (67, none, .int .i64 j)]) (fun j W' => W' = W3 ∧ j ≤ 5 ∧ ∀ m, m < j → kindsL[m]? ≠ some (trimR x.rest)) (fun j => 5 - j) 0 (by repeat (first | exact Sub.nil _ | refine Sub.cons rfl ?_)) ⟨rfl, by omega, by omega⟩ ?_)
      rintro j W' ⟨rfl, hj, hno⟩
      refine rn ?_
      first | refine G.condD rfl (fun hc => ?_) (fun hc => ?_) | refine G.condN rfl (fun hc => ?_) (fun hc => ?_) | refine G.cond rfl (fun hc => ?_) (fun hc => ?_)
      · have hj5 : j < 5 := by omega
        obtain ⟨kd, hkd⟩ : ∃ kd, kindsL[j]? = some kd := ⟨_, List.getElem?_eq_getElem (by simpa [kindsL] using hj5)⟩
        have hget : (kindsL.map fun x => [S x])[j]? = some [S kd] := by rw [List.getElem?_map, hkd]; rfl
        try (first | refine gl tb ?_ | refine gg tb ?_ | refine ll tb ?_ | refine lg tb ?_); repeat ((first | refine G.condT rfl ?_ | refine G.condF rfl ?_ | refine sFa tb ?_ | refine sLd tb ?_ | refine sLa tb ?_ | refine sLen tb ?_ | refine sFd tb ?_ | refine sBd tb ?_ | refine sIa tb j ?_); try (first | refine gl tb ?_ | refine gg tb ?_ | refine ll tb ?_ | refine lg tb ?_))
        first | refine G.condD rfl (fun hc => ?_) (fun hc => ?_) | refine G.condN rfl (fun hc => ?_) (fun hc => ?_) | refine G.cond rfl (fun hc => ?_) (fun hc => ?_)
        · have hkt : kd = trimR x.rest := hc
          have hfx3 := hs3.bx
          have hfo3 := hs3.ow
          have hslv3 := hfo3.sli
          refine rn ?_
          refine sIa tb (famAt fams x.name) ?_ (hs := fun _ => ⟨_, hslv3⟩) (hj := fun _ => ⟨rfl, by rw [hll]; exact hlt⟩)
          refine rn ?_
          refine GL.cons (Step.storeRowF tb (j := famAt fams x.name) (off := 1) rfl (Op1.of rfl (by first | exact fun _ => rfl | exact fun h => h | exact fun h => bL h | exact fun h => bL (bL h) | exact fun h => bL (bL (bL h)))) (Op1.of rfl (by first | exact fun _ => rfl | exact fun h => h | exact fun h => bL h | exact fun h => bL (bL h) | exact fun h => bL (bL (bL h)))) rfl rfl rfl hfo3 (by rw [hll]; exact hlt) (by decide) ?_)
          intro W4 ho4 hg4
          have hfx4 := hfx3.grew hg4 (hfo3.ne hfB)
          rw [famC_set fams x 1 _ hset] at ho4
          have hm4 := hm3.below hg4.bl hmB
          refine rn ?_
          refine G.ret1 rfl rfl rfl rfl ?_
          subst hxb
          refine ⟨?_, hk3.trans (hg4.kq hgoff), fun _ => ⟨_, FamS.mk hfx4 ho4 ⟨es1, hm4, hM1.put⟩ hfB hmB hfm, hown⟩⟩
          rw [hsok]
          congr 1
          symm
          rw [List.contains_iff_mem, ← hkt]
          exact List.mem_of_getElem? hkd
        · have hne := hc
          refine rn ?_
          refine sAd tb ?_
          refine rn ?_
          refine G.lp (x := j) (j + 1) (by repeat (first | exact Sub.nil _ | refine Sub.cons rfl ?_)) ⟨rfl, by omega, fun m hm e => ?_⟩ (by omega)
          by_cases em : m = j
          · subst em
            rw [hkd] at e
            cases e
            exact hne rfl
          · exact hno m (by omega) e
      · have hj5 : j = 5 := by omega
        refine rn ?_
        refine G.ret1 rfl rfl rfl rfl ?_
        subst hxb
        have hnot : kindsL.contains (trimR x.rest) = false := by
          rw [Bool.eq_false_iff]
          intro hct
          rw [List.contains_iff_mem] at hct
          obtain ⟨m, hm⟩ := List.getElem?_of_mem hct
          exact hno m (by have := (List.getElem?_eq_some_iff.1 hm).1; simp [kindsL] at this; omega) hm
        refine ⟨by rw [hsok, hnot], hk3, fun h => ?_⟩
        rw [hsok, hnot] at h
        cases h
  · have hox : fv.ownBlock ≠ some xb := fun e => by have := (h.ow.lt xb e).2; omega
    by_cases hin : famAt fams x.name < fams.length
    · rw [decide_eq_true hin]
      rw [if_pos hin] at hv
      rw [hv]
      simp only [Option.getD_some]
      have hf1 : fam1 fams x.name = fams := by unfold fam1; rw [if_pos hin]
      refine rn ?_
      exact G.met fv (by repeat (first | exact Sub.nil _ | refine Sub.cons rfl ?_)) ⟨by rw [hf1]; exact hd, hbd, hkq2, hxl, hox, fun g hg => .inl hg⟩
    · rw [decide_eq_false hin]
      have hn : famAt fams x.name = fams.length := by omega
      rw [if_neg hin] at hv
      have hf1 : fam1 fams x.name = fams ++ [fam0 x.name] := by unfold fam1; rw [if_neg hin]
      have hfx := hd.bx
      have hfo := hd.ow
      obtain ⟨fa, fc, hfe, -⟩ := hfo.sli.len
      have hll : (fams.map famC).length = fams.length := by simp
      have hlenV : ∃ w0, Sli w0 fv 3 (fams.map famC) := ⟨_, hfo.sli⟩
      refine rn ?_
      have hfx' := hfx.to (Ext.drew W2)
      have hbd' := hbd.to (Ext.drew W2)
      refine G.regionM [(0, true), (1, true), (2, true), (3, true), (4, true), (5, true), (6, true), (7, false)] (fun w' => Bx w' fb [fv, .map (some mb)] ∧ Bx w' xb [S x.word, S x.name, S x.rest]) (by kernel_rfl) (by kernel_rfl) rfl mixed (⟨hfx', hbd'⟩) rfl ?_
      refine rd ?_
      refine dLd tb (u := .map (some mb)) ?_ (hc := fun w' hS _ => Bx.ci (i := 1) hS.1 (by exact rfl))
      refine rd ?_
      refine dLd tb (u := S x.name) ?_ (hc := fun w' hS _ => Bx.ci (i := 1) hS.2 (by exact rfl))
      refine rd ?_
      refine GM.eff (Step.mapUpdateV tb rfl (Op1.of rfl (by first | exact fun _ => rfl | exact fun h => h | exact fun h => bL h | exact fun h => bL (bL h) | exact fun h => bL (bL (bL h)))) (Op1.of rfl (by first | exact fun _ => rfl | exact fun h => h | exact fun h => bL h | exact fun h => bL (bL h) | exact fun h => bL (bL (bL h)))) (Op1.of rfl (by first | exact fun _ => rfl | exact fun h => h | exact fun h => bL h | exact fun h => bL (bL h) | exact fun h => bL (bL (bL h)))) rfl rfl (hesd.to (Ext.drew W2)) ?_)
      intro W3 hm3 hw3
      have hfx3 := hfx'.wr hw3 hfm
      have hbx3 := hbd'.wr hw3 hxmb
      refine ⟨⟨hfx3, hbx3⟩, ?_⟩
      refine GM.nil ?_
      rw [hll] at hm3
      have hM3 := hM.new hn
      have ho3 := (hfo.to (Ext.drew W2)).kp hw3.kp hmB
      have hk3 : Kq (Off fb mb fv w.heap.size) w W3 := (hkq2.trans (Ext.drew W2).kq).trans (hw3.kq fun hP => hP.2.2.1 rfl)
      have hs3 : W3.heap.size = xb + 1 := by rw [hw3.size]; exact hszd
      have hfx4 := hfx3.to (Ext.drew W3)
      have hbx4 := hbx3.to (Ext.drew W3)
      have ho4 := ho3.to (Ext.drew W3)
      have hm4 := hm3.to (Ext.drew W3)
      have hk4 : Kq (Off fb mb fv w.heap.size) w W3.drew := hk3.trans (Ext.drew W3).kq
      have hs4 : W3.drew.heap.size = xb + 1 := hs3
      clear hfx3 hbx3 ho3 hm3 hk3 hfx' hbd' hfx hbd hd hesd
      refine rn ?_
      refine G.regionZ 12 [(0, true), (1, true), (2, true), (3, true), (4, true), (5, true), (6, true), (7, true), (8, false), (9, false), (10, true), (11, true)] (fun w' => Bx w' fb [fv, .map (some mb)] ∧ Bx w' xb [S x.word, S x.name, S x.rest]) (by kernel_rfl) (by kernel_rfl) rfl mixed (⟨hfx4, hbx4⟩) rfl rfl ?_
      generalize W3.drew = W4 at hfx4 hbx4 ho4 hm4 hk4 hs4 ⊢
      refine rd ?_
      refine dLd tb (u := fv) ?_ (hc := fun w' hS _ => Bx.c0 hS.1 rfl)
      refine rd ?_
      refine dLd tb (u := S x.name) ?_ (hc := fun w' hS _ => Bx.ci (i := 1) hS.2 (by exact rfl))
      refine rd ?_
      refine GM.read (fun w' hS => Step.build tb rfl rfl rfl rfl rfl rfl rfl rfl rfl ⟨rfl, rfl⟩) rfl rfl ?_
      refine rd ?_
      refine GM.eff (Step.buildSlice tb [famC (fam0 x.name)] rfl rfl rfl rfl rfl rfl (by rfl) rfl (by kernel_rfl) (by rfl) (by rfl) (by simp [famC]) rfl ?_)
      intro us W5 ho5 hs5 hx5
      have hfx5 := hfx4.to hx5
      have hbx5 := hbx4.to hx5
      refine ⟨⟨hfx5, hbx5⟩, ?_⟩
      refine rd ?_
      have how5 := ho4.to hx5
      have hB5 : B ≤ W5.heap.size := by omega
      have h1f : ∀ y ∈ [famC (fam0 x.name)], ∀ c ∈ y, c.oneCell' = true := by
        intro y hy c hc
        obtain rfl := List.mem_singleton.1 hy
        simp only [famC, List.mem_cons, List.not_mem_nil, or_false] at hc
        rcases hc with rfl | rfl | rfl <;> rfl
      refine GM.eff (Step.append2 tb rfl (Op1.of rfl (by first | exact fun _ => rfl | exact fun h => h | exact fun h => bL h | exact fun h => bL (bL h) | exact fun h => bL (bL (bL h)))) (Op1.of rfl (by first | exact fun _ => rfl | exact fun h => h | exact fun h => bL h | exact fun h => bL (bL h) | exact fun h => bL (bL (bL h)))) rfl rfl rfl (by rfl) (how5) (ho5.sli) (h1f) (by simp only [List.length_map, List.length_append, List.length_cons, List.length_nil, List.length_take, List.length_drop]; omega) (by simp only [List.length_map, List.length_append, List.length_cons, List.length_nil, List.length_take, List.length_drop]; omega) (hB5) rfl ?_)
      intro fv' W6 ho6 hg6 ho2
      have hnfb : some fb ≠ fv.ownBlock := fun e => by have := (how5.lt fb e.symm).1; omega
      have hfx6 := hfx5.grew hg6 hnfb
      have hbx6 := hbx5.grew hg6 (fun e => hox e.symm)
      refine ⟨⟨hfx6, hbx6⟩, ?_⟩
      obtain ⟨pa, pc, hpv, -⟩ := ho6.sli.len
      have hcl6 := ho6.cells
      have hon6 : fv'.oneCell' = true := ho6.sli.one fv' (List.mem_singleton.2 rfl)
      refine rd ?_
      refine GM.nil ?_
      refine zSf tb (fun W7 hb7 hw7 => ?_) (vs := [fv']) (hv := hcl6) (h1 := by intro y hy; obtain rfl := List.mem_singleton.1 hy; exact hon6)
      have hb7 : Bx W7 fb [fv', .map (some mb)] := hb7
      have hfl2 : (fam1 fams x.name).map famC = fams.map famC ++ [famC (fam0 x.name)] := by rw [hf1, List.map_append]; rfl
      have ho7 : Owns W7 B fv' 74 3 ((fam1 fams x.name).map famC) := by rw [hfl2]; exact ho6.kp hw7.kp hfB
      have hg56 := hg6.size
      have hm7 := ((hm4.to hx5).below hg6.bl hmB).kp hw7.kp (Ne.symm hfm)
      have hbx7 := hbx6.wr hw7 hxfb
      have hk7 : Kq (Off fb mb fv w.heap.size) w W7 := ((hk4.trans hx5.kq).trans (hg6.kq fun g hg hP => hP.2.2.2 hg)).trans (hw7.kq fun hP => hP.2.1 rfl)
      have hs7 := hw7.size
      refine rn ?_
      have he5 : (fams.map famC).length = famAt fams x.name := by omega
      rw [he5]
      refine G.met fv' (by repeat (first | exact Sub.nil _ | refine Sub.cons rfl ?_)) ⟨⟨hb7, ho7, ⟨_, hm7, by rw [hf1]; exact hM3⟩, hfB, hmB, hfm⟩, hbx7, hk7, by omega, ?_, ?_⟩
      · intro e
        rcases ho2 with ho2 | ho2
        · exact hox (by rw [← ho2]; exact e)
        · rw [ho2] at e
          simp only [Option.some.injEq] at e
          omega
      · intro g hg
        rcases ho2 with ho2 | ho2
        · exact .inl (by rw [← ho2]; exact hg)
        · rw [ho2] at hg
          cases hg
          exact .inr (by omega)
end Go.Proofs.YtcngoccnfmhhnaaGreatDoor
end
