/- regex: a whole expression read, walked. -/
import Derived.Test.YtbpkhgehchelhaaDoorRM
import Derived.Test.YtbpkhgehchelhaaDoorGV3
open Go Go.Vg Go.RowKit Go.Proofs Go.Proofs.YtbpkhgehchelhaaDoor
namespace Go.Proofs.YtbpkhgehchelhaaDoor
set_option linter.unusedSimpArgs false

/-- the four results, in cells -/
structure Rs4 (w : World) (c0 c1 c2 c3 : Nat) (t g a ok : Value) : Prop where
  b0 : Bx w c0 [t]
  b1 : Bx w c1 [g]
  b2 : Bx w c2 [a]
  b3 : Bx w c3 [ok]

set_option maxHeartbeats 1000000 in
theorem catch_ret (w : World) (c0 c1 c2 c3 : Nat) :
    CallsD Tryd.prog 53 ⟨[ptr c0, ptr c1, ptr c2, ptr c3]⟩ .returning w fun en u w' => en = .returned (.tuple #[]) ∧ u = .returning ∧ w' = w := by
  refine calls_catch (v := .nilIface) (S := fun w' => w' = w) Tryd.func53 rfl Tryd.ntmps53 rfl rfl rfl (fun c cs hm => by simp [recoverD, hm]) ?_
  simp only [argEnv]
  try (first | refine gl tb ?_ | refine gg tb ?_ | refine ll tb ?_ | refine lg tb ?_); repeat ((first | refine G.condT rfl ?_ | refine G.condF rfl ?_ | refine sFa tb ?_ | refine sLd tb ?_ | refine sLa tb ?_ | refine sLen tb ?_ | refine sFd tb ?_ | refine sBd tb ?_ | refine sBa tb ?_); try (first | refine gl tb ?_ | refine gg tb ?_ | refine ll tb ?_ | refine lg tb ?_))
  refine GL.cons (Step.eqNil tb rfl (Op1.of rfl (by first | exact fun _ => rfl | exact fun h => h | exact fun h => bL h | exact fun h => bL (bL h) | exact fun h => bL (bL (bL h)))) (Op1.of rfl (by first | exact fun _ => rfl | exact fun h => h | exact fun h => bL h | exact fun h => bL (bL h) | exact fun h => bL (bL (bL h)))) rfl rfl ?_)
  try (first | refine gl tb ?_ | refine gg tb ?_ | refine ll tb ?_ | refine lg tb ?_); repeat ((first | refine G.condT rfl ?_ | refine G.condF rfl ?_ | refine sFa tb ?_ | refine sLd tb ?_ | refine sLa tb ?_ | refine sLen tb ?_ | refine sFd tb ?_ | refine sBd tb ?_ | refine sBa tb ?_); try (first | refine gl tb ?_ | refine gg tb ?_ | refine ll tb ?_ | refine lg tb ?_))
  exact G.endCatch rfl rfl rfl
set_option maxHeartbeats 1000000 in
theorem catch_panic (w : World) (c0 c1 c2 c3 e : Nat) {t g a ok : Value} (h : Rs4 w c0 c1 c2 c3 t g a ok) (h01 : c0 < c1) (h12 : c1 < c2) (h23 : c2 < c3) :
    CallsD Tryd.prog 53 ⟨[ptr c0, ptr c1, ptr c2, ptr c3]⟩ (.panicking [{ v := .iface 117 (.agg ⟨[.int .i64 e]⟩), recovered := false }]) w fun en u w' => en = .returned (.tuple #[]) ∧ u = .panicking [{ v := .iface 117 (.agg ⟨[.int .i64 e]⟩), recovered := true }] ∧
      (Rs4 w' c0 c1 c2 c3 (.pointer none) (.int .i64 0) (.int .i64 e) (.bool false) ∧ Below c0 w w') := by
  refine calls_catch (v := .iface 117 (.agg ⟨[.int .i64 e]⟩)) (S := fun w' => Rs4 w' c0 c1 c2 c3 (.pointer none) (.int .i64 0) (.int .i64 e) (.bool false) ∧ Below c0 w w') Tryd.func53 rfl Tryd.ntmps53 rfl rfl rfl (fun c cs hm => by simp [recoverD, hm]) ?_
  simp only [argEnv]
  try (first | refine gl tb ?_ | refine gg tb ?_ | refine ll tb ?_ | refine lg tb ?_); repeat ((first | refine G.condT rfl ?_ | refine G.condF rfl ?_ | refine sFa tb ?_ | refine sLd tb ?_ | refine sLa tb ?_ | refine sLen tb ?_ | refine sFd tb ?_ | refine sBd tb ?_ | refine sBa tb ?_); try (first | refine gl tb ?_ | refine gg tb ?_ | refine ll tb ?_ | refine lg tb ?_))
  refine GL.cons (Step.eqIface tb rfl (Op1.of rfl (by first | exact fun _ => rfl | exact fun h => h | exact fun h => bL h | exact fun h => bL (bL h) | exact fun h => bL (bL (bL h)))) (Op1.of rfl (by first | exact fun _ => rfl | exact fun h => h | exact fun h => bL h | exact fun h => bL (bL h) | exact fun h => bL (bL (bL h)))) rfl rfl ?_)
  try (first | refine gl tb ?_ | refine gg tb ?_ | refine ll tb ?_ | refine lg tb ?_); repeat ((first | refine G.condT rfl ?_ | refine G.condF rfl ?_ | refine sFa tb ?_ | refine sLd tb ?_ | refine sLa tb ?_ | refine sLen tb ?_ | refine sFd tb ?_ | refine sBd tb ?_ | refine sBa tb ?_); try (first | refine gl tb ?_ | refine gg tb ?_ | refine ll tb ?_ | refine lg tb ?_))
  refine GL.cons (Step.assertT tb rfl (Op1.of rfl (by first | exact fun _ => rfl | exact fun h => h | exact fun h => bL h | exact fun h => bL (bL h) | exact fun h => bL (bL (bL h)))) rfl rfl rfl ?_)
  try (first | refine gl tb ?_ | refine gg tb ?_ | refine ll tb ?_ | refine lg tb ?_); repeat ((first | refine G.condT rfl ?_ | refine G.condF rfl ?_ | refine sFa tb ?_ | refine sLd tb ?_ | refine sLa tb ?_ | refine sLen tb ?_ | refine sFd tb ?_ | refine sBd tb ?_ | refine sBa tb ?_); try (first | refine gl tb ?_ | refine gg tb ?_ | refine ll tb ?_ | refine lg tb ?_))
  have h3 := h.b3.lt
  refine sAl tb (fun W1 hb1 hs1 hx1 => ?_)
  try (first | refine gl tb ?_ | refine gg tb ?_ | refine ll tb ?_ | refine lg tb ?_); repeat ((first | refine G.condT rfl ?_ | refine G.condF rfl ?_ | refine sFa tb ?_ | refine sLd tb ?_ | refine sLa tb ?_ | refine sLen tb ?_ | refine sFd tb ?_ | refine sBd tb ?_ | refine sBa tb ?_); try (first | refine gl tb ?_ | refine gg tb ?_ | refine ll tb ?_ | refine lg tb ?_))
  refine sSt tb (fun W2 hb2 hw2 => ?_)
  have hB2 : Below c0 w W2 := (hx1.mono (by omega)).wr hw2 (by omega)
  have hq0 : Bx W2 c0 [t] := (h.b0.to hx1).wr hw2 (by omega)
  have hq1 : Bx W2 c1 [g] := (h.b1.to hx1).wr hw2 (by omega)
  have hq2 : Bx W2 c2 [a] := (h.b2.to hx1).wr hw2 (by omega)
  have hq3 : Bx W2 c3 [ok] := (h.b3.to hx1).wr hw2 (by omega)
  have hbe : Bx W2 w.heap.size [.int .i64 e] := hb2
  try (first | refine gl tb ?_ | refine gg tb ?_ | refine ll tb ?_ | refine lg tb ?_); repeat ((first | refine G.condT rfl ?_ | refine G.condF rfl ?_ | refine sFa tb ?_ | refine sLd tb ?_ | refine sLa tb ?_ | refine sLen tb ?_ | refine sFd tb ?_ | refine sBd tb ?_ | refine sBa tb ?_); try (first | refine gl tb ?_ | refine gg tb ?_ | refine ll tb ?_ | refine lg tb ?_))
  have hbe := hbe.to (Ext.drew W2)
  have hq0 := hq0.to (Ext.drew W2)
  have hq1 := hq1.to (Ext.drew W2)
  have hq2 := hq2.to (Ext.drew W2)
  have hq3 := hq3.to (Ext.drew W2)
  have hB2 := hB2.drew
  refine G.regionM [(0, true), (1, true), (2, false), (3, false), (4, false), (5, false)] (fun w' => Bx w' w.heap.size [.int .i64 (e : Nat)]) (by kernel_rfl) (by kernel_rfl) rfl mixed (hbe) rfl ?_
  try (refine mm tb ?_); repeat ((first | refine dFa tb ?_ | refine dLd tb ?_ | refine dLa tb ?_ | refine dLen tb ?_ | refine dFd tb ?_); try (refine mm tb ?_))
  refine GM.read (fun w' hS => Step.load1 tb rfl (Op1.of rfl (by first | exact fun _ => rfl | exact fun h => h | exact fun h => bL h | exact fun h => bL (bL h) | exact fun h => bL (bL (bL h)))) rfl rfl (fun _ => Bx.c0 hS rfl) rfl ⟨rfl, rfl⟩) rfl rfl ?_
  try (refine mm tb ?_); repeat ((first | refine dFa tb ?_ | refine dLd tb ?_ | refine dLa tb ?_ | refine dLen tb ?_ | refine dFd tb ?_); try (refine mm tb ?_))
  have n0 : w.heap.size ≠ c0 := by omega
  have n1 : w.heap.size ≠ c1 := by omega
  have n2 : w.heap.size ≠ c2 := by omega
  have n3 : w.heap.size ≠ c3 := by omega
  refine GM.eff (Step.store0 tb rfl (Op1.of rfl (by first | exact fun _ => rfl | exact fun h => h | exact fun h => bL h | exact fun h => bL (bL h) | exact fun h => bL (bL (bL h)))) (Op1.of rfl (by first | exact fun _ => rfl | exact fun h => h | exact fun h => bL h | exact fun h => bL (bL h) | exact fun h => bL (bL (bL h)))) rfl rfl rfl (by simp [Value.oneCell']) hq0 rfl ?_)
  intro W3 hb3 hw3
  have hbe := hbe.wr hw3 n0
  have hq1 := hq1.wr hw3 (by omega)
  have hq2 := hq2.wr hw3 (by omega)
  have hq3 := hq3.wr hw3 (by omega)
  refine ⟨hbe, ?_⟩
  refine GM.eff (Step.store0 tb rfl (Op1.of rfl (by first | exact fun _ => rfl | exact fun h => h | exact fun h => bL h | exact fun h => bL (bL h) | exact fun h => bL (bL (bL h)))) (Op1.of rfl (by first | exact fun _ => rfl | exact fun h => h | exact fun h => bL h | exact fun h => bL (bL h) | exact fun h => bL (bL (bL h)))) rfl rfl rfl (by simp [Value.oneCell']) hq1 rfl ?_)
  intro W4 hb4 hw4
  have hbe := hbe.wr hw4 n1
  have hq2 := hq2.wr hw4 (by omega)
  have hq3 := hq3.wr hw4 (by omega)
  refine ⟨hbe, ?_⟩
  refine GM.eff (Step.store0 tb rfl (Op1.of rfl (by first | exact fun _ => rfl | exact fun h => h | exact fun h => bL h | exact fun h => bL (bL h) | exact fun h => bL (bL (bL h)))) (Op1.of rfl (by first | exact fun _ => rfl | exact fun h => h | exact fun h => bL h | exact fun h => bL (bL h) | exact fun h => bL (bL (bL h)))) rfl rfl rfl (by simp [Value.oneCell']) hq2 rfl ?_)
  intro W5 hb5 hw5
  have hbe := hbe.wr hw5 n2
  have hq3 := hq3.wr hw5 (by omega)
  refine ⟨hbe, ?_⟩
  refine GM.eff (Step.store0 tb rfl (Op1.of rfl (by first | exact fun _ => rfl | exact fun h => h | exact fun h => bL h | exact fun h => bL (bL h) | exact fun h => bL (bL (bL h)))) (Op1.of rfl (by first | exact fun _ => rfl | exact fun h => h | exact fun h => bL h | exact fun h => bL (bL h) | exact fun h => bL (bL (bL h)))) rfl rfl rfl (by simp [Value.oneCell']) hq3 rfl ?_)
  intro W6 hb6 hw6
  refine ⟨hbe.wr hw6 n3, ?_⟩
  try (refine mm tb ?_); repeat ((first | refine dFa tb ?_ | refine dLd tb ?_ | refine dLa tb ?_ | refine dLen tb ?_ | refine dFd tb ?_); try (refine mm tb ?_))
  refine GM.nil ?_
  try (first | refine gl tb ?_ | refine gg tb ?_ | refine ll tb ?_ | refine lg tb ?_); repeat ((first | refine G.condT rfl ?_ | refine G.condF rfl ?_ | refine sFa tb ?_ | refine sLd tb ?_ | refine sLa tb ?_ | refine sLen tb ?_ | refine sFd tb ?_ | refine sBd tb ?_ | refine sBa tb ?_); try (first | refine gl tb ?_ | refine gg tb ?_ | refine ll tb ?_ | refine lg tb ?_))
  refine G.endCatch rfl rfl ⟨⟨((hb3.wr hw4 (by omega)).wr hw5 (by omega)).wr hw6 (by omega), (hb4.wr hw5 (by omega)).wr hw6 (by omega), hb5.wr hw6 (by omega), hb6⟩, (((hB2.wr hw3 (by omega)).wr hw4 (by omega)).wr hw5 (by omega)).wr hw6 (by omega)⟩

/-- what a reading of the whole gives -/
def ReadS (s : List UInt8) (w : World) (r : Value) (w' : World) : Prop :=
  Ext w w' ∧ ((∃ t g v, Rx.readP s = .ok (t, g) ∧ Tr w' (fun b => w.heap.size ≤ b) t v ∧ r = .tuple ⟨[v, .int .i64 (g : Nat), .int .i64 0, .bool true]⟩) ∨
    (∃ e, Rx.readP s = .error e ∧ r = .tuple ⟨[.pointer none, .int .i64 0, .int .i64 (e : Nat), .bool false]⟩))
set_option maxHeartbeats 4000000 in
theorem read_ok (w : World) (s : List UInt8) (hs : s.length ≤ 256) (hT : Tabs w) : Ret Tryd.prog 34 ⟨[S s]⟩ w (ReadS s w) := by
  refine ret_of_GDf Tryd.func34 rfl Tryd.ntmps34 rfl ?_
  simp only [argEnv]
  try (first | refine gl tb ?_ | refine gg tb ?_ | refine ll tb ?_ | refine lg tb ?_); repeat ((first | refine G.condT rfl ?_ | refine G.condF rfl ?_ | refine sFa tb ?_ | refine sLd tb ?_ | refine sLa tb ?_ | refine sLen tb ?_ | refine sFd tb ?_ | refine sBd tb ?_ | refine sBa tb ?_); try (first | refine gl tb ?_ | refine gg tb ?_ | refine ll tb ?_ | refine lg tb ?_))
  refine sAl tb (fun W1 hb1 hs1 hx1 => ?_)
  try (first | refine gl tb ?_ | refine gg tb ?_ | refine ll tb ?_ | refine lg tb ?_); repeat ((first | refine G.condT rfl ?_ | refine G.condF rfl ?_ | refine sFa tb ?_ | refine sLd tb ?_ | refine sLa tb ?_ | refine sLen tb ?_ | refine sFd tb ?_ | refine sBd tb ?_ | refine sBa tb ?_); try (first | refine gl tb ?_ | refine gg tb ?_ | refine ll tb ?_ | refine lg tb ?_))
  refine sAl tb (fun W2 hb2 hs2 hx2 => ?_)
  try (first | refine gl tb ?_ | refine gg tb ?_ | refine ll tb ?_ | refine lg tb ?_); repeat ((first | refine G.condT rfl ?_ | refine G.condF rfl ?_ | refine sFa tb ?_ | refine sLd tb ?_ | refine sLa tb ?_ | refine sLen tb ?_ | refine sFd tb ?_ | refine sBd tb ?_ | refine sBa tb ?_); try (first | refine gl tb ?_ | refine gg tb ?_ | refine ll tb ?_ | refine lg tb ?_))
  refine sAl tb (fun W3 hb3 hs3 hx3 => ?_)
  try (first | refine gl tb ?_ | refine gg tb ?_ | refine ll tb ?_ | refine lg tb ?_); repeat ((first | refine G.condT rfl ?_ | refine G.condF rfl ?_ | refine sFa tb ?_ | refine sLd tb ?_ | refine sLa tb ?_ | refine sLen tb ?_ | refine sFd tb ?_ | refine sBd tb ?_ | refine sBa tb ?_); try (first | refine gl tb ?_ | refine gg tb ?_ | refine ll tb ?_ | refine lg tb ?_))
  refine sAl tb (fun W4 hb4 hs4 hx4 => ?_)
  try (first | refine gl tb ?_ | refine gg tb ?_ | refine ll tb ?_ | refine lg tb ?_); repeat ((first | refine G.condT rfl ?_ | refine G.condF rfl ?_ | refine sFa tb ?_ | refine sLd tb ?_ | refine sLa tb ?_ | refine sLen tb ?_ | refine sFd tb ?_ | refine sBd tb ?_ | refine sBa tb ?_); try (first | refine gl tb ?_ | refine gg tb ?_ | refine ll tb ?_ | refine lg tb ?_))
  refine sBox (fun W5 hb5 hs5 hx5 => ?_)
  try (first | refine gl tb ?_ | refine gg tb ?_ | refine ll tb ?_ | refine lg tb ?_); repeat ((first | refine G.condT rfl ?_ | refine G.condF rfl ?_ | refine sFa tb ?_ | refine sLd tb ?_ | refine sLa tb ?_ | refine sLen tb ?_ | refine sFd tb ?_ | refine sBd tb ?_ | refine sBa tb ?_); try (first | refine gl tb ?_ | refine gg tb ?_ | refine ll tb ?_ | refine lg tb ?_))
  have e1 : W1.heap.size = w.heap.size + 1 := hs1
  have e2 : W2.heap.size = w.heap.size + 2 := by omega
  have e3 : W3.heap.size = w.heap.size + 3 := by omega
  have e4 : W4.heap.size = w.heap.size + 4 := by omega
  have hx05 := (((hx1.trans hx2).trans hx3).trans hx4).trans hx5
  have hp0 : Bx W5 w.heap.size [.pointer none] := (((hb1.to hx2).to hx3).to hx4).to hx5
  have hp1 : Bx W5 W1.heap.size [.int .i64 0] := ((hb2.to hx3).to hx4).to hx5
  have hp2 : Bx W5 W2.heap.size [.int .i64 0] := (hb3.to hx4).to hx5
  have hp3 : Bx W5 W3.heap.size [.bool false] := hb4.to hx5
  have hr5 : Rd W5 W4.heap.size s 0 0 := ⟨hb5, hT.to hx05, by have := hT.lt; omega, Nat.zero_le _, hs, Nat.le_refl _⟩
  have hP : ∀ (W : World) (t : Array Value) (en : Env) (e : Nat) (u0 u1 u2 u3 : Value), Fits 26 en t → Go.Vg.look en 2 = some (none, ptr w.heap.size) → Go.Vg.look en 3 = some (none, ptr W1.heap.size) → Go.Vg.look en 4 = some (none, ptr W2.heap.size) → Go.Vg.look en 5 = some (none, ptr W3.heap.size) →
      Rs4 W w.heap.size W1.heap.size W2.heap.size W3.heap.size u0 u1 u2 u3 → Ext w W → Rx.readP s = .error e →
      Leaves Tryd.prog Tryd.f34 t (fun en w' => ∃ v, en = .returned v ∧ ReadS s w v w') [{ target := .fn (.func 53) ⟨[ptr w.heap.size, ptr W1.heap.size, ptr W2.heap.size, ptr W3.heap.size]⟩, args := #[] }] (.panicking [{ v := .iface 117 (.agg ⟨[.int .i64 e]⟩), recovered := false }]) W := by
    intro W t en e u0 u1 u2 u3 hf l2 l3 l4 l5 hR hx hE
    refine leaves_panic c53 (catch_panic W _ _ _ _ e hR (by omega) (by omega) (by omega)) ?_
    rintro w' ⟨h4, hB⟩
    exact ⟨_, resC4 hf rfl l2 l3 l4 l5 (tb.ok _ _ rfl) rfl (tb.ok _ _ rfl) rfl (tb.ok _ _ rfl) rfl (tb.ok _ _ rfl) rfl (Bx.c0 h4.b0 rfl) (Bx.c0 h4.b1 rfl) (Bx.c0 h4.b2 rfl) (Bx.c0 h4.b3 rfl), Below.trans hx hB, .inr ⟨e, hE, rfl⟩⟩
  refine GL.deferL rfl rfl (Op1.of rfl (by first | exact fun _ => rfl | exact fun h => h | exact fun h => bL h | exact fun h => bL (bL h) | exact fun h => bL (bL (bL h)))) ?_
  try (first | refine gl tb ?_ | refine gg tb ?_ | refine ll tb ?_ | refine lg tb ?_); repeat ((first | refine G.condT rfl ?_ | refine G.condF rfl ?_ | refine sFa tb ?_ | refine sLd tb ?_ | refine sLa tb ?_ | refine sLen tb ?_ | refine sFd tb ?_ | refine sBd tb ?_ | refine sBa tb ?_); try (first | refine gl tb ?_ | refine gg tb ?_ | refine ll tb ?_ | refine lg tb ?_))
  refine GL.callPk c54 ((reader_ok (6 * s.length + 5)).1 W5 W4.heap.size s 0 0 hr5 (by simp only [Rx.need]; omega)) ?_ ?_
  · rintro ch W' t hf ⟨e, he, rfl, hk⟩
    refine hP W' t _ e _ _ _ _ hf rfl rfl rfl rfl ⟨hp0.kp hk (by omega), hp1.kp hk (by omega), hp2.kp hk (by omega), hp3.kp hk (by omega)⟩ (hx05.ofKp hk (by omega)) ?_
    unfold Rx.readP; rw [he]
  rintro v W6 ⟨t, a, g, hE, hTr, hr6, hk6, hia⟩
  have hp0 := hp0.kp hk6 (by omega)
  have hp1 := hp1.kp hk6 (by omega)
  have hp2 := hp2.kp hk6 (by omega)
  have hp3 := hp3.kp hk6 (by omega)
  have hx6 := hx05.ofKp hk6 (by omega)
  obtain ⟨ub, rfl⟩ := hTr.isPtr
  try (first | refine gl tb ?_ | refine gg tb ?_ | refine ll tb ?_ | refine lg tb ?_); repeat ((first | refine G.condT rfl ?_ | refine G.condF rfl ?_ | refine sFa tb ?_ | refine sLd tb ?_ | refine sLa tb ?_ | refine sLen tb ?_ | refine sFd tb ?_ | refine sBd tb ?_ | refine sBa tb ?_); try (first | refine gl tb ?_ | refine gg tb ?_ | refine ll tb ?_ | refine lg tb ?_))
  refine sSt tb (fun W7 hb7 hw7 => ?_) (h1 := by simp [Value.oneCell', ptr])
  have hp1 := hp1.wr hw7 (by omega)
  have hp2 := hp2.wr hw7 (by omega)
  have hp3 := hp3.wr hw7 (by omega)
  have hx7 : Ext w W7 := hx6.wr hw7 (Nat.le_refl _)
  have hb7 : Bx W7 w.heap.size [ptr ub] := hb7
  have hr7 : Rd W7 W4.heap.size s a g := ⟨hr6.bx.wr hw7 (by omega), (by
    have h1 : 1 < w.heap.size := hT.lt
    exact hr6.tabs.kp hw7.kp h1), hr6.hb, hr6.hi, hr6.hs, hr6.hg⟩
  have hT7 : Tr W7 (fun b => w.heap.size ≤ b) t (ptr ub) := hTr.same fun q hq hA => ⟨hw7.block q (by have : W5.heap.size ≤ q := hA; omega), by have : W5.heap.size ≤ q := hA; show w.heap.size ≤ q; omega⟩
  try (first | refine gl tb ?_ | refine gg tb ?_ | refine ll tb ?_ | refine lg tb ?_); repeat ((first | refine G.condT rfl ?_ | refine G.condF rfl ?_ | refine sFa tb ?_ | refine sLd tb ?_ | refine sLa tb ?_ | refine sLen tb ?_ | refine sFd tb ?_ | refine sBd tb ?_ | refine sBa tb ?_); try (first | refine gl tb ?_ | refine gg tb ?_ | refine ll tb ?_ | refine lg tb ?_))
  refine sCall c55 (more_ok W7 W4.heap.size s a g hr7) ?_
  rintro _ W8 ⟨rfl, hx8⟩
  have hr8 := hr7.to hx8
  have hbx := hr8.bx
  unfold rdC at hbx
  have hq0 := hb7.to hx8
  have hq1 := hp1.to hx8
  have hq2 := hp2.to hx8
  have hq3 := hp3.to hx8
  have hT8 := hT7.ext hx8
  have hx8' := hx7.trans hx8
  have hRE : a < s.length → Rx.readP s = .error a := fun hl => by unfold Rx.readP; rw [hE]; exact if_pos hl
  have hRO : ¬ a < s.length → Rx.readP s = .ok (t, g) := fun hl => by unfold Rx.readP; rw [hE]; exact if_neg hl
  try (first | refine gl tb ?_ | refine gg tb ?_ | refine ll tb ?_ | refine lg tb ?_); repeat ((first | refine G.condT rfl ?_ | refine G.condF rfl ?_ | refine sFa tb ?_ | refine sLd tb ?_ | refine sLa tb ?_ | refine sLen tb ?_ | refine sFd tb ?_ | refine sBd tb ?_ | refine sBa tb ?_); try (first | refine gl tb ?_ | refine gg tb ?_ | refine ll tb ?_ | refine lg tb ?_))
  first | refine G.condD rfl (fun hc => ?_) (fun hc => ?_) | refine G.condN rfl (fun hc => ?_) (fun hc => ?_) | refine G.cond rfl (fun hc => ?_) (fun hc => ?_)
  · have hl : a < s.length := by simpa using hc
    try (first | refine gl tb ?_ | refine gg tb ?_ | refine ll tb ?_ | refine lg tb ?_); repeat ((first | refine G.condT rfl ?_ | refine G.condF rfl ?_ | refine sFa tb ?_ | refine sLd tb ?_ | refine sLa tb ?_ | refine sLen tb ?_ | refine sFd tb ?_ | refine sBd tb ?_ | refine sBa tb ?_); try (first | refine gl tb ?_ | refine gg tb ?_ | refine ll tb ?_ | refine lg tb ?_))
    refine GL.callPk c56 (fail_ok W4.heap.size a W8) ?_ ?_
    · rintro ch W' t' hf ⟨rfl, rfl⟩
      exact hP W' t' _ a _ _ _ _ hf rfl rfl rfl rfl ⟨hq0, hq1, hq2, hq3⟩ hx8' (hRE hl)
    · rintro _ _ ⟨⟩
  · have hl : ¬ a < s.length := by simpa using hc
    try (first | refine gl tb ?_ | refine gg tb ?_ | refine ll tb ?_ | refine lg tb ?_); repeat ((first | refine G.condT rfl ?_ | refine G.condF rfl ?_ | refine sFa tb ?_ | refine sLd tb ?_ | refine sLa tb ?_ | refine sLen tb ?_ | refine sFd tb ?_ | refine sBd tb ?_ | refine sBa tb ?_); try (first | refine gl tb ?_ | refine gg tb ?_ | refine ll tb ?_ | refine lg tb ?_))
    have hq0 := hq0.to (Ext.drew W8)
    have hq1 := hq1.to (Ext.drew W8)
    have hq2 := hq2.to (Ext.drew W8)
    have hq3 := hq3.to (Ext.drew W8)
    have hbx := hbx.to (Ext.drew W8)
    have hT8 := hT8.ext (Ext.drew W8)
    have hx9 := hx8'.trans (Ext.drew W8)
    refine G.regionM [(0, true), (1, true), (2, true), (3, true), (4, true), (5, false), (6, false), (7, false), (8, false)] (fun w' => Bx w' w.heap.size [ptr ub] ∧ Bx w' W4.heap.size [S s, .int .i64 (a : Nat), .int .i64 (g : Nat)]) (by kernel_rfl) (by kernel_rfl) rfl mixed (⟨hq0, hbx⟩) rfl ?_
    refine GM.read (fun w' hS => Step.load1 tb rfl (Op1.of rfl (by first | exact fun _ => rfl | exact fun h => h | exact fun h => bL h | exact fun h => bL (bL h) | exact fun h => bL (bL (bL h)))) rfl rfl (fun _ => Bx.c0 hS.1 rfl) rfl ⟨rfl, rfl⟩) rfl rfl ?_
    try (refine mm tb ?_); repeat ((first | refine dFa tb ?_ | refine dLd tb ?_ | refine dLa tb ?_ | refine dLen tb ?_ | refine dFd tb ?_); try (refine mm tb ?_))
    refine GM.read (fun w' hS => Step.load1 tb rfl (Op1.of rfl (by first | exact fun _ => rfl | exact fun h => h | exact fun h => bL h | exact fun h => bL (bL h) | exact fun h => bL (bL (bL h)))) rfl rfl (fun _ => Bx.ci hS.2 (by exact rfl)) rfl ⟨rfl, rfl⟩) rfl rfl ?_
    try (refine mm tb ?_); repeat ((first | refine dFa tb ?_ | refine dLd tb ?_ | refine dLa tb ?_ | refine dLen tb ?_ | refine dFd tb ?_); try (refine mm tb ?_))
    have n0 : W4.heap.size ≠ w.heap.size := by omega
    have n1 : W4.heap.size ≠ W1.heap.size := by omega
    have n2 : W4.heap.size ≠ W2.heap.size := by omega
    have n3 : W4.heap.size ≠ W3.heap.size := by omega
    have lt : ∀ {W W' : World} {c : Nat}, Tr W (fun b => W5.heap.size ≤ b) t (ptr ub) → Wr c W W' → c < W5.heap.size → Tr W' (fun b => W5.heap.size ≤ b) t (ptr ub) := fun h hw hc => h.same fun q hq hA => ⟨hw.block q (by have : W5.heap.size ≤ q := hA; omega), hA⟩
    have hT5 : Tr W8.drew (fun b => W5.heap.size ≤ b) t (ptr ub) := ((lt hTr hw7 (by omega)).ext hx8).ext (Ext.drew W8)
    refine GM.eff (Step.store0 tb rfl (Op1.of rfl (by first | exact fun _ => rfl | exact fun h => h | exact fun h => bL h | exact fun h => bL (bL h) | exact fun h => bL (bL (bL h)))) (Op1.of rfl (by first | exact fun _ => rfl | exact fun h => h | exact fun h => bL h | exact fun h => bL (bL h) | exact fun h => bL (bL (bL h)))) rfl rfl rfl (by simp [Value.oneCell', ptr]) hq0 rfl ?_)
    intro Wa hba hwa
    have hbx := hbx.wr hwa n0
    have hq1 := hq1.wr hwa (by omega)
    have hq2 := hq2.wr hwa (by omega)
    have hq3 := hq3.wr hwa (by omega)
    have hba : Bx Wa w.heap.size [ptr ub] := hba
    refine ⟨⟨hba, hbx⟩, ?_⟩
    refine GM.eff (Step.store0 tb rfl (Op1.of rfl (by first | exact fun _ => rfl | exact fun h => h | exact fun h => bL h | exact fun h => bL (bL h) | exact fun h => bL (bL (bL h)))) (Op1.of rfl (by first | exact fun _ => rfl | exact fun h => h | exact fun h => bL h | exact fun h => bL (bL h) | exact fun h => bL (bL (bL h)))) rfl rfl rfl (by simp [Value.oneCell']) hq1 rfl ?_)
    intro Wb hbb hwb
    have hbx := hbx.wr hwb n1
    have hba := hba.wr hwb (by omega)
    have hq2 := hq2.wr hwb (by omega)
    have hq3 := hq3.wr hwb (by omega)
    refine ⟨⟨hba, hbx⟩, ?_⟩
    refine GM.eff (Step.store0 tb rfl (Op1.of rfl (by first | exact fun _ => rfl | exact fun h => h | exact fun h => bL h | exact fun h => bL (bL h) | exact fun h => bL (bL (bL h)))) (Op1.of rfl (by first | exact fun _ => rfl | exact fun h => h | exact fun h => bL h | exact fun h => bL (bL h) | exact fun h => bL (bL (bL h)))) rfl rfl rfl (by simp [Value.oneCell']) hq2 rfl ?_)
    intro Wc hbc hwc
    have hbx := hbx.wr hwc n2
    have hba := hba.wr hwc (by omega)
    have hbb := hbb.wr hwc (by omega)
    have hq3 := hq3.wr hwc (by omega)
    refine ⟨⟨hba, hbx⟩, ?_⟩
    refine GM.eff (Step.store0 tb rfl (Op1.of rfl (by first | exact fun _ => rfl | exact fun h => h | exact fun h => bL h | exact fun h => bL (bL h) | exact fun h => bL (bL (bL h)))) (Op1.of rfl (by first | exact fun _ => rfl | exact fun h => h | exact fun h => bL h | exact fun h => bL (bL h) | exact fun h => bL (bL (bL h)))) rfl rfl rfl (by simp [Value.oneCell']) hq3 rfl ?_)
    intro Wd hbd hwd
    have hbx := hbx.wr hwd n3
    have hba := hba.wr hwd (by omega)
    have hbb := hbb.wr hwd (by omega)
    have hbc := hbc.wr hwd (by omega)
    refine ⟨⟨hba, hbx⟩, ?_⟩
    refine GM.nil ?_
    have hTd := lt (lt (lt (lt hT5 hwa (by omega)) hwb (by omega)) hwc (by omega)) hwd (by omega)
    have hxd := ((((hx9.wr hwa (Nat.le_refl _)).wr hwb (by omega)).wr hwc (by omega)).wr hwd (by omega))
    refine G.ret fun t' hf => ?_
    refine leaves_ret c53 (catch_ret Wd _ _ _ _) ?_
    rintro w' rfl
    exact ⟨_, resC4 hf rfl rfl rfl rfl rfl (tb.ok _ _ rfl) rfl (tb.ok _ _ rfl) rfl (tb.ok _ _ rfl) rfl (tb.ok _ _ rfl) rfl (Bx.c0 hba rfl) (Bx.c0 hbb rfl) (Bx.c0 hbc rfl) (Bx.c0 hbd rfl), hxd, .inl ⟨t, g, _, hRO hl, hTd.same fun q hq hA => ⟨rfl, by have : W5.heap.size ≤ q := hA; show w.heap.size ≤ q; omega⟩, rfl⟩⟩
end Go.Proofs.YtbpkhgehchelhaaDoor
