/- Steps on floats; calls of what the model carries out itself. -/
import Derived.Test.YtbnckhfkkoncbaaV34
import Derived.WalkLawsBesides
namespace Go.Vg
open Go.RowKit

/-- a float of 64 bits -/
abbrev Fl (b : Nat) : Value := .float .f64 b
/-- how two floats stand to each other, tested -/
def fcmpB (op : BinOp) (x y : Nat) : Option Bool := match op with
  | .eql => some (FloatKind.f64.format.order x y == some .eq)
  | .neq => some (FloatKind.f64.format.order x y != some .eq)
  | .lss => some (FloatKind.f64.format.order x y == some .lt)
  | .leq => some (FloatKind.f64.format.order x y == some .lt || FloatKind.f64.format.order x y == some .eq)
  | .gtr => some (FloatKind.f64.format.order x y == some .gt)
  | .geq => some (FloatKind.f64.format.order x y == some .gt || FloatKind.f64.format.order x y == some .eq)
  | _ => none
section
variable {X : Cx} {ops : Array Oper} {l : List Oper} {k : List Kt} {e : Env} {w : World} {N : Env → World → Prop} {d : Nat} {c : Option Bool} {ty : TypeId} {pos : String} {af : Array Edge} {g : Option (Nat × Bool)}
theorem Step.flt {op : BinOp} {xt yt : TypeId} {x y : Operand} {a b r : Nat} (hg : guardE ops e ⟨some d, .binOp op xt x y yt, ty, pos, af, g⟩ = some c)
    (hx : Op1 e c x (Fl a)) (hy : Op1 e c y (Fl b)) (hr : floatBits op .f64 a b = some r) (hn : Nat.blt d X.n = true)
    (h : N ((d, c, Fl r) :: e) w) : Step X ops ⟨some d, .binOp op xt x y yt, ty, pos, af, g⟩ e w N :=
  Step.quiet rfl (by simpa [Nat.blt_eq] using hn) hg (fun _ hh => by cases hh) (fun t hf hc => by
    have hr' := run_float_arith (P := X.P) w op xt .f64 a b r hr
    have hq : (eqGuard op xt x y (Fl a) (Fl b)).run X.P w = .ok () w := by
      unfold floatBits at hr
      cases op <;> simp only at hr <;> first | (cases hr; done) | rfl
    simp only [execOp, hx.val hf hc, hy.val hf hc, Sem.run_bind, hq, Result.andThen_ok, hr', Sem.run_pure]) h
theorem Step.fcmp {op : BinOp} {xt yt : TypeId} {x y : Operand} {a b : Nat} {r : Bool} (hg : guardE ops e ⟨some d, .binOp op xt x y yt, ty, pos, af, g⟩ = some c)
    (hx : Op1 e c x (Fl a)) (hy : Op1 e c y (Fl b)) (hr : fcmpB op a b = some r) (hn : Nat.blt d X.n = true)
    (h : N ((d, c, .bool r) :: e) w) : Step X ops ⟨some d, .binOp op xt x y yt, ty, pos, af, g⟩ e w N :=
  Step.quiet rfl (by simpa [Nat.blt_eq] using hn) hg (fun _ hh => by cases hh) (fun t hf hc => by
    simp only [execOp, hx.val hf hc, hy.val hf hc]
    unfold fcmpB at hr
    cases op <;> simp only at hr <;> first | (cases hr; done) | (cases hr; simp [go_sem]; done) | (cases hr; simp [go_sem]; rfl)) h
theorem Step.i2f (T : Tb X.P) {x : Operand} {src dst : TypeId} {q : IntKind} {m : Int} {r : Nat} {sd : TypeDesc} (hg : guardE ops e ⟨some d, .convert src dst x, ty, pos, af, g⟩ = some c)
    (hx : Op1 e c x (.int q m)) (hs : T.ty src = some sd) (ht : T.ty dst = some (.float .f64)) (hr : floatOfInt .f64 m = r) (hn : Nat.blt d X.n = true)
    (h : N ((d, c, Fl r) :: e) w) : Step X ops ⟨some d, .convert src dst x, ty, pos, af, g⟩ e w N :=
  Step.quiet rfl (by simpa [Nat.blt_eq] using hn) hg (fun _ hh => by cases hh) (fun t hf hc => by
    have := run_convert_int_float (P := X.P) w src dst q .f64 m (by simp [T.ok _ _ hs]) (T.ok _ _ ht)
    rw [hr] at this
    simp only [execOp, hx.val hf hc, Sem.run_bind, this, Result.andThen_ok, Sem.run_pure]) h
theorem Step.f2i (T : Tb X.P) {x : Operand} {src dst : TypeId} {q : IntKind} {m : Int} {b : Nat} {sd : TypeDesc} (hg : guardE ops e ⟨some d, .convert src dst x, ty, pos, af, g⟩ = some c)
    (hx : Op1 e c x (Fl b)) (hs : T.ty src = some sd) (ht : T.ty dst = some (.int q)) (hr : floatToIntVal .f64 b q = some m) (hn : Nat.blt d X.n = true)
    (h : N ((d, c, .int q m) :: e) w) : Step X ops ⟨some d, .convert src dst x, ty, pos, af, g⟩ e w N :=
  Step.quiet rfl (by simpa [Nat.blt_eq] using hn) hg (fun _ hh => by cases hh) (fun t hf hc => by
    have := run_convert_float_int (P := X.P) w src dst .f64 q b m (by simp [T.ok _ _ hs]) (T.ok _ _ ht) hr
    simp only [execOp, hx.val hf hc, Sem.run_bind, this, Result.andThen_ok, Sem.run_pure]) h
theorem Step.f2f (T : Tb X.P) {x : Operand} {src dst : TypeId} {b r : Nat} {sd : TypeDesc} (hg : guardE ops e ⟨some d, .convert src dst x, ty, pos, af, g⟩ = some c)
    (hx : Op1 e c x (Fl b)) (hs : T.ty src = some sd) (ht : T.ty dst = some (.float .f64)) (hr : floatToFloatBits .f64 b .f64 = some r) (hn : Nat.blt d X.n = true)
    (h : N ((d, c, Fl r) :: e) w) : Step X ops ⟨some d, .convert src dst x, ty, pos, af, g⟩ e w N :=
  Step.quiet rfl (by simpa [Nat.blt_eq] using hn) hg (fun _ hh => by cases hh) (fun t hf hc => by
    have := run_convert_float_float (P := X.P) w src dst .f64 .f64 b r (by simp [T.ok _ _ hs]) (T.ok _ _ ht) hr
    simp only [execOp, hx.val hf hc, Sem.run_bind, this, Result.andThen_ok, Sem.run_pure]) h
/-- a call that the model answers by itself -/
theorem Step.ext {f : FuncId} {args : Array Operand} {ats : Array TypeId} {lo : List Operand} {vs : List Value} {v : Value}
    (hg : guardE ops e ⟨some d, .call { callee := .value (.func f), args := args, argTypes := ats }, ty, pos, af, g⟩ = some c)
    (ha : args = ⟨lo⟩) (hvs : OpL e c lo vs) (hr : (callFunc f ⟨vs⟩).run X.P w = .ok (.value v) w) (hn : Nat.blt d X.n = true)
    (h : N ((d, c, v) :: e) w) : Step X ops ⟨some d, .call { callee := .value (.func f), args := args, argTypes := ats }, ty, pos, af, g⟩ e w N :=
  Step.quiet rfl (by simpa [Nat.blt_eq] using hn) hg (fun _ hh => by cases hh) (fun t hf hc => by
    have := hvs.map (ds := X.ds) hf hc
    subst ha
    have h2 : (Array.mk lo).map (Act.mk t X.ds).eval = ⟨vs⟩ := by simp [this]
    simp only [execOp, resolve, h2, Act.eval, Deferred.ofValue, Sem.run_bind, Sem.run_pure, Result.andThen_ok, invoke, Array.empty_append, Array.append_empty, hr]) h
/-- the bits of a float, and back -/
theorem run_fbits {P : Program} {f : FuncId} {fn : Func} (hf : P.funcs[f]? = some fn) (hname : (fn.name == "runtime.NumGoroutine") = false) (hb : fn.body.isNone = true) (hn : Extern.findNext fn = none) (he : Extern.find fn = some Extern.MathFloatBits.float64bits) (b : Nat) (w : World) :
    (callFunc f #[Fl b]).run P w = .ok (.value (.int .u64 b)) w := by
  rw [run_callFunc_extern hf hname hb hn he]; rfl
theorem run_ofbits {P : Program} {f : FuncId} {fn : Func} (hf : P.funcs[f]? = some fn) (hname : (fn.name == "runtime.NumGoroutine") = false) (hb : fn.body.isNone = true) (hn : Extern.findNext fn = none) (he : Extern.find fn = some Extern.MathFloatBits.float64frombits) (b : Nat) (w : World) :
    (callFunc f #[.int .u64 b]).run P w = .ok (.value (Fl b)) w := by
  rw [run_callFunc_extern hf hname hb hn he]; rfl
/-- math.Floor's own -/
theorem run_afloor {P : Program} {f : FuncId} {fn : Func} {op : Array Value → Sem Value} (hf : P.funcs[f]? = some fn) (hname : (fn.name == "runtime.NumGoroutine") = false) (hb : fn.body.isNone = true) (hn : Extern.findNext fn = none) (he : Extern.find fn = some op) (b r : Nat) (w : World)
    (h : (op #[Fl b]).run P w = .ok (Fl r) w) : (callFunc f #[Fl b]).run P w = .ok (.value (Fl r)) w := by
  rw [run_callFunc_extern hf hname hb hn he, h]; rfl
end
end Go.Vg
