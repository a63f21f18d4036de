/- what a label may be, as the reference says it, walked. -/
import Derived.Test.YtfffblopkaandaaDoorLU
import Derived.Test.YtfffblopkaandaaDoorLC
open Go Go.Vg Go.RowKit Go.Proofs Go.Proofs.YtfffblopkaandaaDoor
namespace Go.Proofs.YtfffblopkaandaaDoor
set_option linter.unusedSimpArgs false

theorem u8n_le (s : List UInt8) (i n : Nat) (c l : Int) (hi : i ≤ s.length) : i + u8n s i n c l ≤ s.length := by
  unfold u8n
  by_cases h : s.length < i + n
  · rw [if_pos h]; exact hi
  · rw [if_neg h]
    split
    · exact hi
    · split
      · exact hi
      · omega
theorem u8len_le (s : List UInt8) (i : Nat) (hi : i ≤ s.length) : i + u8len s i ≤ s.length := by
  unfold u8len
  split
  · exact hi
  · exact u8n_le _ _ _ _ _ hi
def validGo (s : List UInt8) : Nat → Nat → Bool
  | 0, _ => true
  | m + 1, i => if s.length ≤ i then true else if u8len s i = 0 then false else validGo s m (i + u8len s i)
def validU (s : List UInt8) : Bool := validGo s s.length 0
theorem validGo_end (s : List UInt8) : ∀ (m i : Nat), s.length ≤ i → validGo s m i = true
  | 0, _, _ => rfl
  | m + 1, i, h => by rw [validGo, if_pos h]
theorem validGo_fuel (s : List UInt8) : ∀ (m k i : Nat), s.length - i ≤ m → s.length - i ≤ k → validGo s m i = validGo s k i := by
  intro m
  induction m with
  | zero => intro k i h _; rw [validGo_end s 0 i (by omega), validGo_end s k i (by omega)]
  | succ m ih =>
    intro k i h h2
    cases k with
    | zero => rw [validGo_end s 0 i (by omega), validGo_end s (m + 1) i (by omega)]
    | succ k =>
      simp only [validGo]
      by_cases he : s.length ≤ i
      · rw [if_pos he, if_pos he]
      · rw [if_neg he, if_neg he]
        by_cases hz : u8len s i = 0
        · rw [if_pos hz, if_pos hz]
        · rw [if_neg hz, if_neg hz]
          exact ih _ _ (by omega) (by omega)
theorem validGo_step {s : List UInt8} {i : Nat} (hi : i < s.length) (hz : u8len s i ≠ 0) : validGo s (s.length - i) i = validGo s (s.length - (i + u8len s i)) (i + u8len s i) := by
  rw [validGo_fuel s (s.length - i) ((s.length - i - 1) + 1) i (by omega) (by omega), validGo, if_neg (by omega), if_neg hz]
  exact validGo_fuel _ _ _ _ (by omega) (by omega)
theorem validGo_no {s : List UInt8} {i : Nat} (hi : i < s.length) (hz : u8len s i = 0) : validGo s (s.length - i) i = false := by
  rw [validGo_fuel s (s.length - i) ((s.length - i - 1) + 1) i (by omega) (by omega), validGo, if_neg (by omega), if_pos hz]

theorem valid_ok (s : List UInt8) (w : World) (hs : s.length ≤ 140737488355328) :
    Ret Tryd.prog 101 ⟨[S s]⟩ w fun v w' => v = .bool (validU s) ∧ Ext w w' := by
  refine ret_of_G Tryd.func101 rfl Tryd.ntmps101 rfl ?_
  simp only [argEnv]
  try (first | refine gl tb ?_ | refine gg tb ?_ | refine ll tb ?_ | refine lg tb ?_); repeat ((first | refine G.condT rfl ?_ | refine G.condF rfl ?_); try (first | refine gl tb ?_ | refine gg tb ?_ | refine ll tb ?_ | refine lg tb ?_))
  refine (G.loop (fun i : Nat => [(0, none, S s), (3, none, .int .i64 i)]) (fun i w' => w' = w ∧ i ≤ s.length ∧ validGo s (s.length - i) i = validU s) (fun i => s.length - i) 0 (by repeat (first | exact Sub.nil _ | refine Sub.cons rfl ?_)) ⟨rfl, by omega, rfl⟩ ?_)
  rintro i w ⟨rfl, hk, hto⟩
  try (first | refine gl tb ?_ | refine gg tb ?_ | refine ll tb ?_ | refine lg tb ?_); repeat ((first | refine G.condT rfl ?_ | refine G.condF rfl ?_); try (first | refine gl tb ?_ | refine gg tb ?_ | refine ll tb ?_ | refine lg tb ?_))
  first | refine G.condD rfl (fun hc => ?_) (fun hc => ?_) | refine G.condN rfl (fun hc => ?_) (fun hc => ?_) | refine G.cond rfl (fun hc => ?_) (fun hc => ?_)
  · have hlt : i < s.length := by omega
    try (first | refine gl tb ?_ | refine gg tb ?_ | refine ll tb ?_ | refine lg tb ?_); repeat ((first | refine G.condT rfl ?_ | refine G.condF rfl ?_); try (first | refine gl tb ?_ | refine gg tb ?_ | refine ll tb ?_ | refine lg tb ?_))
    refine GL.cons (Step.callF rfl rfl rfl c111 rfl (utf8_ok s i w hs hlt) ?_)
    rintro _ _ ⟨rfl, rfl⟩
    have hle := u8len_le s i hk
    try (first | refine gl tb ?_ | refine gg tb ?_ | refine ll tb ?_ | refine lg tb ?_); repeat ((first | refine G.condT rfl ?_ | refine G.condF rfl ?_); try (first | refine gl tb ?_ | refine gg tb ?_ | refine ll tb ?_ | refine lg tb ?_))
    first | refine G.condD rfl (fun hc => ?_) (fun hc => ?_) | refine G.condN rfl (fun hc => ?_) (fun hc => ?_) | refine G.cond rfl (fun hc => ?_) (fun hc => ?_)
    · try (first | refine gl tb ?_ | refine gg tb ?_ | refine ll tb ?_ | refine lg tb ?_); repeat ((first | refine G.condT rfl ?_ | refine G.condF rfl ?_); try (first | refine gl tb ?_ | refine gg tb ?_ | refine ll tb ?_ | refine lg tb ?_))
      refine G.ret1 rfl rfl rfl rfl ?_
      refine ⟨?_, Ext.refl _⟩
      rw [← hto, validGo_no hlt (by omega)]
    · try (first | refine gl tb ?_ | refine gg tb ?_ | refine ll tb ?_ | refine lg tb ?_); repeat ((first | refine G.condT rfl ?_ | refine G.condF rfl ?_); try (first | refine gl tb ?_ | refine gg tb ?_ | refine ll tb ?_ | refine lg tb ?_))
      refine GL.cons (Step.arith rfl (Op1.of rfl (by first | exact fun _ => rfl | exact fun h => h | exact fun h => bL h | exact fun h => bL (bL h) | exact fun h => bL (bL (bL h)))) (Op1.of rfl (by first | exact fun _ => rfl | exact fun h => h | exact fun h => bL h | exact fun h => bL (bL h) | exact fun h => bL (bL (bL h)))) (wrap_i64 (by omega) (by omega)) rfl ?_)
      try (first | refine gl tb ?_ | refine gg tb ?_ | refine ll tb ?_ | refine lg tb ?_); repeat ((first | refine G.condT rfl ?_ | refine G.condF rfl ?_); try (first | refine gl tb ?_ | refine gg tb ?_ | refine ll tb ?_ | refine lg tb ?_))
      refine G.lp (i + u8len s i) (by repeat (first | exact Sub.nil _ | refine Sub.cons rfl ?_)) ⟨rfl, hle, ?_⟩ (by omega)
      rw [← hto, validGo_step hlt (by omega)]
  · try (first | refine gl tb ?_ | refine gg tb ?_ | refine ll tb ?_ | refine lg tb ?_); repeat ((first | refine G.condT rfl ?_ | refine G.condF rfl ?_); try (first | refine gl tb ?_ | refine gg tb ?_ | refine ll tb ?_ | refine lg tb ?_))
    refine G.ret1 rfl rfl rfl rfl ?_
    refine ⟨?_, Ext.refl _⟩
    rw [← hto, validGo_end _ _ _ (by omega)]

def rightV (s : List UInt8) : Bool := decide ((s.length : Int) ≤ 1024) && validU s
theorem refValue_ok (s : List UInt8) (w : World) (hs : s.length ≤ 9223372036854775807) :
    Ret Tryd.prog 82 ⟨[S s]⟩ w fun v w' => v = .bool (rightV s) ∧ Ext w w' := by
  refine ret_of_G Tryd.func82 rfl Tryd.ntmps82 rfl ?_
  simp only [argEnv]
  try (first | refine gl tb ?_ | refine gg tb ?_ | refine ll tb ?_ | refine lg tb ?_); repeat ((first | refine G.condT rfl ?_ | refine G.condF rfl ?_); try (first | refine gl tb ?_ | refine gg tb ?_ | refine ll tb ?_ | refine lg tb ?_))
  refine GL.cons (Step.callX rfl rfl (by repeat (first | exact OpL.nil | refine OpL.cons (Op1.of rfl (by first | exact fun _ => rfl | exact fun h => h | exact fun h => bL h | exact fun h => bL (bL h) | exact fun h => bL (bL (bL h)))) ?_)) c101 rfl (fun hc => valid_ok s w (by have := of_decide_eq_true hc; omega)) ?_)
  intro w1 hx
  try (first | refine gl tb ?_ | refine gg tb ?_ | refine ll tb ?_ | refine lg tb ?_); repeat ((first | refine G.condT rfl ?_ | refine G.condF rfl ?_); try (first | refine gl tb ?_ | refine gg tb ?_ | refine ll tb ?_ | refine lg tb ?_))
  refine G.ret1 rfl rfl rfl rfl ?_
  exact ⟨rfl, hx⟩

def Sz (s : List UInt8) : Prop := s.length ≤ 9223372036854775807
def LabSz (x : Lab) : Prop := Sz x.1 ∧ Sz x.2
def nameS : List UInt8 := [95, 95, 110, 97, 109, 101, 95, 95]
/-- may a label be in a set, but for an empty value? -/
def fairB (x : Lab) : Bool := (namedB false x.1 && rightV x.2) && (!decide (x.1 = nameS) || decide (x.2 = []) || namedB true x.2)
theorem fair_ok (x : Lab) (w : World) (hx : LabSz x) :
    Ret Tryd.prog 59 ⟨[.agg ⟨labC x⟩]⟩ w fun v w' => v = .bool (fairB x) ∧ Ext w w' := by
  refine ret_of_G Tryd.func59 rfl Tryd.ntmps59 rfl ?_
  simp only [argEnv]
  try (first | refine gl tb ?_ | refine gg tb ?_ | refine ll tb ?_ | refine lg tb ?_); repeat ((first | refine G.condT rfl ?_ | refine G.condF rfl ?_); try (first | refine gl tb ?_ | refine gg tb ?_ | refine ll tb ?_ | refine lg tb ?_))
  refine GL.cons (Step.box rfl (Op1.of rfl (by first | exact fun _ => rfl | exact fun h => h | exact fun h => bL h | exact fun h => bL (bL h) | exact fun h => bL (bL (bL h)))) (rfl) rfl ?_)
  intro w1 hb1 hs1 hx1
  try (first | refine gl tb ?_ | refine gg tb ?_ | refine ll tb ?_ | refine lg tb ?_); repeat ((first | refine G.condT rfl ?_ | refine G.condF rfl ?_); try (first | refine gl tb ?_ | refine gg tb ?_ | refine ll tb ?_ | refine lg tb ?_))
  refine GL.cons (Step.fieldAddr tb rfl (Op1.of rfl (by first | exact fun _ => rfl | exact fun h => h | exact fun h => bL h | exact fun h => bL (bL h) | exact fun h => bL (bL (bL h)))) rfl rfl rfl rfl (fun _ => (hb1.cells).ptr) rfl ?_); refine GL.cons (Step.load1 tb rfl (Op1.of rfl (by first | exact fun _ => rfl | exact fun h => h | exact fun h => bL h | exact fun h => bL (bL h) | exact fun h => bL (bL (bL h)))) rfl rfl (fun _ => (hb1.cells).cell (i := 0) rfl) rfl ?_)
  refine GL.cons (Step.callX rfl rfl (by repeat (first | exact OpL.nil | refine OpL.cons (Op1.of rfl (by first | exact fun _ => rfl | exact fun h => h | exact fun h => bL h | exact fun h => bL (bL h) | exact fun h => bL (bL (bL h)))) ?_)) c27 rfl (fun hc => refName_ok x.1 w1 hx.1) ?_)
  intro w2 hx2
  have hb2 := hb1.to hx2
  try (first | refine gl tb ?_ | refine gg tb ?_ | refine ll tb ?_ | refine lg tb ?_); repeat ((first | refine G.condT rfl ?_ | refine G.condF rfl ?_); try (first | refine gl tb ?_ | refine gg tb ?_ | refine ll tb ?_ | refine lg tb ?_))
  refine GL.cons (Step.fieldAddr tb rfl (Op1.of rfl (by first | exact fun _ => rfl | exact fun h => h | exact fun h => bL h | exact fun h => bL (bL h) | exact fun h => bL (bL (bL h)))) rfl rfl rfl rfl (fun _ => (hb2.cells).ptr) rfl ?_); refine GL.cons (Step.load1 tb rfl (Op1.of rfl (by first | exact fun _ => rfl | exact fun h => h | exact fun h => bL h | exact fun h => bL (bL h) | exact fun h => bL (bL (bL h)))) rfl rfl (fun _ => (hb2.cells).cell (i := 1) rfl) rfl ?_)
  refine GL.cons (Step.callX rfl rfl (by repeat (first | exact OpL.nil | refine OpL.cons (Op1.of rfl (by first | exact fun _ => rfl | exact fun h => h | exact fun h => bL h | exact fun h => bL (bL h) | exact fun h => bL (bL (bL h)))) ?_)) c82 rfl (fun hc => refValue_ok x.2 w2 hx.2) ?_)
  intro w3 hx3
  have hb3 := hb2.to hx3
  try (first | refine gl tb ?_ | refine gg tb ?_ | refine ll tb ?_ | refine lg tb ?_); repeat ((first | refine G.condT rfl ?_ | refine G.condF rfl ?_); try (first | refine gl tb ?_ | refine gg tb ?_ | refine ll tb ?_ | refine lg tb ?_))
  refine GL.cons (Step.fieldAddr tb rfl (Op1.of rfl (by first | exact fun _ => rfl | exact fun h => h | exact fun h => bL h | exact fun h => bL (bL h) | exact fun h => bL (bL (bL h)))) rfl rfl rfl rfl (fun _ => (hb3.cells).ptr) rfl ?_); refine GL.cons (Step.load1 tb rfl (Op1.of rfl (by first | exact fun _ => rfl | exact fun h => h | exact fun h => bL h | exact fun h => bL (bL h) | exact fun h => bL (bL (bL h)))) rfl rfl (fun _ => (hb3.cells).cell (i := 0) rfl) rfl ?_)
  try (first | refine gl tb ?_ | refine gg tb ?_ | refine ll tb ?_ | refine lg tb ?_); repeat ((first | refine G.condT rfl ?_ | refine G.condF rfl ?_); try (first | refine gl tb ?_ | refine gg tb ?_ | refine ll tb ?_ | refine lg tb ?_))
  refine GL.cons (Step.fieldAddr tb rfl (Op1.of rfl (by first | exact fun _ => rfl | exact fun h => h | exact fun h => bL h | exact fun h => bL (bL h) | exact fun h => bL (bL (bL h)))) rfl rfl rfl rfl (fun _ => (hb3.cells).ptr) rfl ?_); refine GL.cons (Step.load1 tb rfl (Op1.of rfl (by first | exact fun _ => rfl | exact fun h => h | exact fun h => bL h | exact fun h => bL (bL h) | exact fun h => bL (bL (bL h)))) rfl rfl (fun _ => (hb3.cells).cell (i := 1) rfl) rfl ?_)
  try (first | refine gl tb ?_ | refine gg tb ?_ | refine ll tb ?_ | refine lg tb ?_); repeat ((first | refine G.condT rfl ?_ | refine G.condF rfl ?_); try (first | refine gl tb ?_ | refine gg tb ?_ | refine ll tb ?_ | refine lg tb ?_))
  refine GL.cons (Step.fieldAddr tb rfl (Op1.of rfl (by first | exact fun _ => rfl | exact fun h => h | exact fun h => bL h | exact fun h => bL (bL h) | exact fun h => bL (bL (bL h)))) rfl rfl rfl rfl (fun _ => (hb3.cells).ptr) rfl ?_); refine GL.cons (Step.load1 tb rfl (Op1.of rfl (by first | exact fun _ => rfl | exact fun h => h | exact fun h => bL h | exact fun h => bL (bL h) | exact fun h => bL (bL (bL h)))) rfl rfl (fun _ => (hb3.cells).cell (i := 1) rfl) rfl ?_)
  refine GL.cons (Step.callX rfl rfl (by repeat (first | exact OpL.nil | refine OpL.cons (Op1.of rfl (by first | exact fun _ => rfl | exact fun h => h | exact fun h => bL h | exact fun h => bL (bL h) | exact fun h => bL (bL (bL h)))) ?_)) c29 rfl (fun hc => refMetric_ok x.2 w3 hx.2) ?_)
  intro w4 hx4
  try (first | refine gl tb ?_ | refine gg tb ?_ | refine ll tb ?_ | refine lg tb ?_); repeat ((first | refine G.condT rfl ?_ | refine G.condF rfl ?_); try (first | refine gl tb ?_ | refine gg tb ?_ | refine ll tb ?_ | refine lg tb ?_))
  refine G.ret1 rfl rfl rfl rfl ?_
  exact ⟨rfl, ((hx1.trans hx2).trans hx3).trans hx4⟩
end Go.Proofs.YtfffblopkaandaaDoor
