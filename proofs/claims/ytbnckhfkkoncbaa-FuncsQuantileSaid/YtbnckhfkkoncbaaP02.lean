/- Part of the proof of a statement about the given program. -/
import Derived.Test.YtbnckhfkkoncbaaP01
import Derived.Lib.AppendStr
import Derived.Laws.BytesArg
import Derived.Laws.IdiomStrings
import Derived.Lib.Overlaps
import Derived.Lib.AppendZerosOnto
import Derived.Lib.SlBytesConst
import Derived.MapKept
import Derived.Scope
import Derived.OwnWalk
import Derived.Lib.SmallJoins
import Derived.WalkLawsBesides
import Derived.KernelRfl
import Derived.Deep.Slices
import Derived.ProofKit
import Derived.Carry
import Derived.Deep.DeepHandedRow
import Derived.OpenShut
import Derived.Test.YtbnckhfkkoncbaaRows
import Derived.Deep.DeepWitnessRowRef
import Derived.Lib.LaidIn
import Derived.PinnedBridge
import Derived.Shelf.Vars
import Derived.SizedLaws
set_option linter.unusedSimpArgs false
set_option linter.unusedVariables false
set_option linter.unusedSectionVars false
section
namespace Go.Vg
open Go.RowKit

theorem Bx.ci {w : World} {b i : Nat} {us : List Value} {u : Value} (h : Bx w b us) (hi : us[i]? = some u) : CellAt w (padd (ptr b) i) u := h.cells.cell hi
theorem CellsAt.c0 {w : World} {p : Value} {us : List Value} {u : Value} (h : CellsAt w p us) (hi : us[0]? = some u) : CellAt w p u := by
  obtain ⟨a, rfl, _, hc⟩ := h
  exact ⟨a, rfl, by have := hc 0 u hi; rwa [Addr.add_zero] at this⟩
theorem Bx.c0 {w : World} {b : Nat} {us : List Value} {u : Value} (h : Bx w b us) (hi : us[0]? = some u) : CellAt w (ptr b) u := h.cells.c0 hi

section
variable {X : Cx} {ops : Array Oper} {l : List Oper} {k : List Kt} {e : Env} {w : World} {d : Nat} {c : Option Bool} {ty : TypeId} {pos : String} {af : Array Edge} {g : Option (Nat × Bool)} {S : World → Prop} {N : Env → World → Prop} {lb : List (Oper × Bool)}

theorem sFa (T : Tb X.P) {x : Operand} {st : TypeId} {f : Nat} {td : TypeDesc} {p z : Value} {off ft s b : Nat} (h : GL X ops l k ((d, c, padd p off) :: e) w) (hg : guardE ops e ⟨some d, .fieldAddr st x f, ty, pos, af, g⟩ = some c := by exact rfl) (hx : Op1 e c x p := by exact Op1.of rfl (by first | exact fun _ => rfl | exact fun h => h | exact fun h => bL h | exact fun h => bL (bL h) | exact fun h => bL (bL (bL h)))) (ht : T.ty st = some td := by exact rfl) (ho : fieldOff td f = some (off, ft) := by exact rfl) (hi : T.inf ft = some (z, s, b) := by exact rfl) (hs : Nat.blt 0 s = true := by exact rfl) (hp : cv c = true → ∃ a : Addr, p = .pointer (some a) := by intro _; first | exact ⟨_, rfl⟩ | exact CellsAt.ptr (by assumption) | exact (Sli.elem (by assumption) (by assumption)).ptr | exact (Sli.elem (Owns.sli (by assumption)) (by assumption)).ptr) (hn : Nat.blt d X.n = true := by exact rfl) :
    GL X ops (⟨some d, .fieldAddr st x f, ty, pos, af, g⟩ :: l) k e w := GL.cons (Step.fieldAddr T hg hx ht ho hi hs hp hn h)
theorem dFa (T : Tb X.P) {x : Operand} {st : TypeId} {f : Nat} {td : TypeDesc} {p z : Value} {off ft s b : Nat} (h : GMN X ops S N lb ((d, c, padd p off) :: e) w) (hg : guardE ops e ⟨some d, .fieldAddr st x f, ty, pos, af, g⟩ = some c := by exact rfl) (hx : Op1 e c x p := by exact Op1.of rfl (by first | exact fun _ => rfl | exact fun h => h | exact fun h => bL h | exact fun h => bL (bL h) | exact fun h => bL (bL (bL h)))) (ht : T.ty st = some td := by exact rfl) (ho : fieldOff td f = some (off, ft) := by exact rfl) (hi : T.inf ft = some (z, s, b) := by exact rfl) (hs : Nat.blt 0 s = true := by exact rfl) (hp : cv c = true → ∃ a : Addr, p = .pointer (some a) := by intro _; first | exact ⟨_, rfl⟩ | exact CellsAt.ptr (by assumption) | exact (Sli.elem (by assumption) (by assumption)).ptr | exact (Sli.elem (Owns.sli (by assumption)) (by assumption)).ptr) (hn : Nat.blt d X.n = true := by exact rfl) :
    GMN X ops S N ((⟨some d, .fieldAddr st x f, ty, pos, af, g⟩, true) :: lb) e w := GM.read (fun _ _ => Step.fieldAddr T hg hx ht ho hi hs hp hn ⟨rfl, rfl⟩) rfl hn h
theorem sLd (T : Tb X.P) {x : Operand} {t : TypeId} {td : TypeDesc} {p u : Value} (h : GL X ops l k ((d, c, u) :: e) w) (hg : guardE ops e ⟨some d, .load t x, ty, pos, af, g⟩ = some c := by exact rfl) (hx : Op1 e c x p := by exact Op1.of rfl (by first | exact fun _ => rfl | exact fun h => h | exact fun h => bL h | exact fun h => bL (bL h) | exact fun h => bL (bL (bL h)))) (ht : T.ty t = some td := by exact rfl) (ha : aggT td = false := by exact rfl) (hc : cv c = true → CellAt w p u := by intro _; first | exact Bx.c0 (by assumption) (by exact rfl) | exact Bx.ci (by assumption) (by exact rfl) | exact (Sli.elem (by assumption) (by assumption)).c0 (by exact rfl) | exact (Sli.elem (by assumption) (by assumption)).cell (by exact rfl) | exact (Sli.elem (Owns.sli (by assumption)) (by assumption)).c0 (by exact rfl) | exact (Sli.elem (Owns.sli (by assumption)) (by assumption)).cell (by exact rfl) | exact CellsAt.c0 (by assumption) (by exact rfl) | exact CellsAt.cell (by assumption) (by exact rfl)) (hn : Nat.blt d X.n = true := by exact rfl) :
    GL X ops (⟨some d, .load t x, ty, pos, af, g⟩ :: l) k e w := GL.cons (Step.load1 T hg hx ht ha hc hn h)
theorem dLd (T : Tb X.P) {x : Operand} {t : TypeId} {td : TypeDesc} {p u : Value} (h : GMN X ops S N lb ((d, c, u) :: e) w) (hg : guardE ops e ⟨some d, .load t x, ty, pos, af, g⟩ = some c := by exact rfl) (hx : Op1 e c x p := by exact Op1.of rfl (by first | exact fun _ => rfl | exact fun h => h | exact fun h => bL h | exact fun h => bL (bL h) | exact fun h => bL (bL (bL h)))) (ht : T.ty t = some td := by exact rfl) (ha : aggT td = false := by exact rfl) (hc : ∀ w', S w' → cv c = true → CellAt w' p u := by intro w1 hS1 _; first | exact Bx.c0 (Bx.to (by assumption) hS1) (by exact rfl) | exact Bx.ci (Bx.to (by assumption) hS1) (by exact rfl) | exact (Sli.elem (Sli.to (by assumption) hS1) (by assumption)).c0 (by exact rfl) | exact (Sli.elem (Sli.to (by assumption) hS1) (by assumption)).cell (by exact rfl) | exact (Sli.elem (Owns.sli (Owns.to (by assumption) hS1)) (by assumption)).c0 (by exact rfl) | exact (Sli.elem (Owns.sli (Owns.to (by assumption) hS1)) (by assumption)).cell (by exact rfl)) (hn : Nat.blt d X.n = true := by exact rfl) :
    GMN X ops S N ((⟨some d, .load t x, ty, pos, af, g⟩, true) :: lb) e w := GM.read (fun w' hS => Step.load1 T hg hx ht ha (hc w' hS) hn ⟨rfl, rfl⟩) rfl hn h
theorem sLa (T : Tb X.P) {x : Operand} {t : TypeId} {td : TypeDesc} {p z : Value} {s b : Nat} {us : List Value} (h : GL X ops l k ((d, c, .agg ⟨us⟩) :: e) w) (hg : guardE ops e ⟨some d, .load t x, ty, pos, af, g⟩ = some c := by exact rfl) (hx : Op1 e c x p := by exact Op1.of rfl (by first | exact fun _ => rfl | exact fun h => h | exact fun h => bL h | exact fun h => bL (bL h) | exact fun h => bL (bL (bL h)))) (ht : T.ty t = some td := by exact rfl) (ha : aggT td = true := by exact rfl) (hi : T.inf t = some (z, s, b) := by exact rfl) (hc : cv c = true → CellsAt w p us := by intro _; first | exact Bx.cells (by assumption) | exact Sli.elem (by assumption) (by assumption) | exact Sli.elem (Owns.sli (by assumption)) (by assumption) | assumption) (hl : cv c = true → us.length = s := by exact fun _ => rfl) (hn : Nat.blt d X.n = true := by exact rfl) :
    GL X ops (⟨some d, .load t x, ty, pos, af, g⟩ :: l) k e w := GL.cons (Step.loadA T hg hx ht ha hi hc hl hn h)
theorem dLa (T : Tb X.P) {x : Operand} {t : TypeId} {td : TypeDesc} {p z : Value} {s b : Nat} {us : List Value} (h : GMN X ops S N lb ((d, c, .agg ⟨us⟩) :: e) w) (hg : guardE ops e ⟨some d, .load t x, ty, pos, af, g⟩ = some c := by exact rfl) (hx : Op1 e c x p := by exact Op1.of rfl (by first | exact fun _ => rfl | exact fun h => h | exact fun h => bL h | exact fun h => bL (bL h) | exact fun h => bL (bL (bL h)))) (ht : T.ty t = some td := by exact rfl) (ha : aggT td = true := by exact rfl) (hi : T.inf t = some (z, s, b) := by exact rfl) (hc : ∀ w', S w' → cv c = true → CellsAt w' p us := by intro w1 hS1 _; first | exact Bx.cells (Bx.to (by assumption) hS1) | exact Sli.elem (Sli.to (by assumption) hS1) (by assumption) | exact Sli.elem (Owns.sli (Owns.to (by assumption) hS1)) (by assumption)) (hl : cv c = true → us.length = s := by exact fun _ => rfl) (hn : Nat.blt d X.n = true := by exact rfl) :
    GMN X ops S N ((⟨some d, .load t x, ty, pos, af, g⟩, true) :: lb) e w := GM.read (fun w' hS => Step.loadA T hg hx ht ha hi (hc w' hS) hl hn ⟨rfl, rfl⟩) rfl hn h
theorem sLen (T : Tb X.P) {x : Operand} {at_ et : TypeId} {v : Value} {m : Nat} {xs : List (List Value)} (h : GL X ops l k ((d, c, .int .i64 xs.length) :: e) w) (hg : guardE ops e ⟨some d, .call { callee := .builtin .len, args := #[x], argTypes := #[at_] }, ty, pos, af, g⟩ = some c := by exact rfl) (hx : Op1 e c x v := by exact Op1.of rfl (by first | exact fun _ => rfl | exact fun h => h | exact fun h => bL h | exact fun h => bL (bL h) | exact fun h => bL (bL (bL h)))) (ht : T.ty at_ = some (.slice et) := by exact rfl) (hs : cv c = true → ∃ w, Sli w v m xs := by intro _; first | exact ⟨_, by assumption⟩ | exact ⟨_, Owns.sli (by assumption)⟩) (hn : Nat.blt d X.n = true := by exact rfl) :
    GL X ops (⟨some d, .call { callee := .builtin .len, args := #[x], argTypes := #[at_] }, ty, pos, af, g⟩ :: l) k e w := GL.cons (Step.lenV T hg hx ht hs hn h)
theorem dLen (T : Tb X.P) {x : Operand} {at_ et : TypeId} {v : Value} {m : Nat} {xs : List (List Value)} (h : GMN X ops S N lb ((d, c, .int .i64 xs.length) :: e) w) (hg : guardE ops e ⟨some d, .call { callee := .builtin .len, args := #[x], argTypes := #[at_] }, ty, pos, af, g⟩ = some c := by exact rfl) (hx : Op1 e c x v := by exact Op1.of rfl (by first | exact fun _ => rfl | exact fun h => h | exact fun h => bL h | exact fun h => bL (bL h) | exact fun h => bL (bL (bL h)))) (ht : T.ty at_ = some (.slice et) := by exact rfl) (hs : cv c = true → ∃ w, Sli w v m xs := by intro _; first | exact ⟨_, by assumption⟩ | exact ⟨_, Owns.sli (by assumption)⟩) (hn : Nat.blt d X.n = true := by exact rfl) :
    GMN X ops S N ((⟨some d, .call { callee := .builtin .len, args := #[x], argTypes := #[at_] }, ty, pos, af, g⟩, true) :: lb) e w := GM.read (fun _ _ => Step.lenV T hg hx ht hs hn ⟨rfl, rfl⟩) rfl hn h
theorem sIa (T : Tb X.P) (j : Nat) {x i : Operand} {st et : TypeId} {v z : Value} {q b : Nat} {m : Int} {xs : List (List Value)} (h : GL X ops l k ((d, c, padd v (j * q)) :: e) w) (hg : guardE ops e ⟨some d, .indexAddr st x i, ty, pos, af, g⟩ = some c := by exact rfl) (hx : Op1 e c x v := by exact Op1.of rfl (by first | exact fun _ => rfl | exact fun h => h | exact fun h => bL h | exact fun h => bL (bL h) | exact fun h => bL (bL (bL h)))) (hi : Op1 e c i (.int .i64 m) := by exact Op1.of rfl (by first | exact fun _ => rfl | exact fun h => h | exact fun h => bL h | exact fun h => bL (bL h) | exact fun h => bL (bL (bL h)))) (ht : T.ty st = some (.slice et) := by exact rfl) (hk : T.inf et = some (z, q, b) := by exact rfl) (hs : cv c = true → ∃ w, Sli w v q xs := by intro _; first | exact ⟨_, by assumption⟩ | exact ⟨_, Owns.sli (by assumption)⟩) (hj : cv c = true → m = j ∧ j < xs.length := by intro hc; first | exact ⟨by omega, by first | omega | (simp only [List.length_map]; omega)⟩ | (simp only [cv, Bool.and_eq_true, decide_eq_true_eq] at hc; exact ⟨by omega, by first | omega | (simp only [List.length_map]; omega)⟩)) (hn : Nat.blt d X.n = true := by exact rfl) :
    GL X ops (⟨some d, .indexAddr st x i, ty, pos, af, g⟩ :: l) k e w := GL.cons (Step.indexAddr T j hg hx hi ht hk hs hj hn h)
theorem dIa (T : Tb X.P) (j : Nat) {x i : Operand} {st et : TypeId} {v z : Value} {q b : Nat} {m : Int} {xs : List (List Value)} (h : GMN X ops S N lb ((d, c, padd v (j * q)) :: e) w) (hg : guardE ops e ⟨some d, .indexAddr st x i, ty, pos, af, g⟩ = some c := by exact rfl) (hx : Op1 e c x v := by exact Op1.of rfl (by first | exact fun _ => rfl | exact fun h => h | exact fun h => bL h | exact fun h => bL (bL h) | exact fun h => bL (bL (bL h)))) (hi : Op1 e c i (.int .i64 m) := by exact Op1.of rfl (by first | exact fun _ => rfl | exact fun h => h | exact fun h => bL h | exact fun h => bL (bL h) | exact fun h => bL (bL (bL h)))) (ht : T.ty st = some (.slice et) := by exact rfl) (hk : T.inf et = some (z, q, b) := by exact rfl) (hs : cv c = true → ∃ w, Sli w v q xs := by intro _; first | exact ⟨_, by assumption⟩ | exact ⟨_, Owns.sli (by assumption)⟩) (hj : cv c = true → m = j ∧ j < xs.length := by intro hc; first | exact ⟨by omega, by first | omega | (simp only [List.length_map]; omega)⟩ | (simp only [cv, Bool.and_eq_true, decide_eq_true_eq] at hc; exact ⟨by omega, by first | omega | (simp only [List.length_map]; omega)⟩)) (hn : Nat.blt d X.n = true := by exact rfl) :
    GMN X ops S N ((⟨some d, .indexAddr st x i, ty, pos, af, g⟩, true) :: lb) e w := GM.read (fun _ _ => Step.indexAddr T j hg hx hi ht hk hs hj hn ⟨rfl, rfl⟩) rfl hn h
theorem sFd (T : Tb X.P) {x : Operand} {st : TypeId} {f : Nat} {td ftd : TypeDesc} {us : List Value} {u : Value} {off ft : Nat} (h : GL X ops l k ((d, c, u) :: e) w) (hg : guardE ops e ⟨some d, .field st x f, ty, pos, af, g⟩ = some c := by exact rfl) (hx : Op1 e c x (.agg ⟨us⟩) := by exact Op1.of rfl (by first | exact fun _ => rfl | exact fun h => h | exact fun h => bL h | exact fun h => bL (bL h) | exact fun h => bL (bL (bL h)))) (ht : T.ty st = some td := by exact rfl) (ho : fieldOff td f = some (off, ft) := by exact rfl) (hft : T.ty ft = some ftd := by exact rfl) (ha : aggT ftd = false := by exact rfl) (hu : us[off]? = some u := by exact rfl) (hn : Nat.blt d X.n = true := by exact rfl) :
    GL X ops (⟨some d, .field st x f, ty, pos, af, g⟩ :: l) k e w := GL.cons (Step.field T hg hx ht ho hft ha hu hn h)
theorem dFd (T : Tb X.P) {x : Operand} {st : TypeId} {f : Nat} {td ftd : TypeDesc} {us : List Value} {u : Value} {off ft : Nat} (h : GMN X ops S N lb ((d, c, u) :: e) w) (hg : guardE ops e ⟨some d, .field st x f, ty, pos, af, g⟩ = some c := by exact rfl) (hx : Op1 e c x (.agg ⟨us⟩) := by exact Op1.of rfl (by first | exact fun _ => rfl | exact fun h => h | exact fun h => bL h | exact fun h => bL (bL h) | exact fun h => bL (bL (bL h)))) (ht : T.ty st = some td := by exact rfl) (ho : fieldOff td f = some (off, ft) := by exact rfl) (hft : T.ty ft = some ftd := by exact rfl) (ha : aggT ftd = false := by exact rfl) (hu : us[off]? = some u := by exact rfl) (hn : Nat.blt d X.n = true := by exact rfl) :
    GMN X ops S N ((⟨some d, .field st x f, ty, pos, af, g⟩, true) :: lb) e w := GM.read (fun _ _ => Step.field T hg hx ht ho hft ha hu hn ⟨rfl, rfl⟩) rfl hn h
theorem sAd (_ : Tb X.P) {op : BinOp} {xt yt : TypeId} {x y : Operand} {a b r : Int} (h : GL X ops l k ((d, c, .int .i64 r) :: e) w) (hg : guardE ops e ⟨some d, .binOp op xt x y yt, ty, pos, af, g⟩ = some c := by exact rfl) (hx : Op1 e c x (.int .i64 a) := by exact Op1.of rfl (by first | exact fun _ => rfl | exact fun h => h | exact fun h => bL h | exact fun h => bL (bL h) | exact fun h => bL (bL (bL h)))) (hy : Op1 e c y (.int .i64 b) := by exact Op1.of rfl (by first | exact fun _ => rfl | exact fun h => h | exact fun h => bL h | exact fun h => bL (bL h) | exact fun h => bL (bL (bL h)))) (hp : match op with | .add => IntKind.i64.wrap (a + b) = r | .sub => IntKind.i64.wrap (a - b) = r | .mul => IntKind.i64.wrap (a * b) = r | _ => False := by exact wrap_i64 (by omega) (by omega)) (hn : Nat.blt d X.n = true := by exact rfl) :
    GL X ops (⟨some d, .binOp op xt x y yt, ty, pos, af, g⟩ :: l) k e w := GL.cons (Step.arith hg hx hy hp hn h)
theorem dAd (_ : Tb X.P) {op : BinOp} {xt yt : TypeId} {x y : Operand} {a b r : Int} (h : GMN X ops S N lb ((d, c, .int .i64 r) :: e) w) (hg : guardE ops e ⟨some d, .binOp op xt x y yt, ty, pos, af, g⟩ = some c := by exact rfl) (hx : Op1 e c x (.int .i64 a) := by exact Op1.of rfl (by first | exact fun _ => rfl | exact fun h => h | exact fun h => bL h | exact fun h => bL (bL h) | exact fun h => bL (bL (bL h)))) (hy : Op1 e c y (.int .i64 b) := by exact Op1.of rfl (by first | exact fun _ => rfl | exact fun h => h | exact fun h => bL h | exact fun h => bL (bL h) | exact fun h => bL (bL (bL h)))) (hp : match op with | .add => IntKind.i64.wrap (a + b) = r | .sub => IntKind.i64.wrap (a - b) = r | .mul => IntKind.i64.wrap (a * b) = r | _ => False := by exact wrap_i64 (by omega) (by omega)) (hn : Nat.blt d X.n = true := by exact rfl) :
    GMN X ops S N ((⟨some d, .binOp op xt x y yt, ty, pos, af, g⟩, true) :: lb) e w := GM.read (fun _ _ => Step.arith hg hx hy hp hn ⟨rfl, rfl⟩) rfl hn h
theorem sCv (T : Tb X.P) {x : Operand} {src dst : TypeId} {q q' : IntKind} {m r : Int} {sd : TypeDesc} (h : GL X ops l k ((d, c, .int q' r) :: e) w) (hg : guardE ops e ⟨some d, .convert src dst x, ty, pos, af, g⟩ = some c := by exact rfl) (hx : Op1 e c x (.int q m) := by exact Op1.of rfl (by first | exact fun _ => rfl | exact fun h => h | exact fun h => bL h | exact fun h => bL (bL h) | exact fun h => bL (bL (bL h)))) (hs : T.ty src = some sd := by exact rfl) (ht : T.ty dst = some (.int q') := by exact rfl) (hr : q'.wrap m = r := by exact wrap_i64 (by omega) (by omega)) (hn : Nat.blt d X.n = true := by exact rfl) :
    GL X ops (⟨some d, .convert src dst x, ty, pos, af, g⟩ :: l) k e w := GL.cons (Step.convI T hg hx hs ht hr hn h)
theorem sBd (T : Tb X.P) {t m bytes : Nat} {z : Value} {zs us : List Value} {fs : Array Field} {parts : Array (Nat × Operand)} {lo : List (Nat × Operand)} {vs : List (Nat × Value)} {pl : List (Nat × Nat)} (h : GL X ops l k ((d, none, .agg ⟨us⟩) :: e) w) (hg : guardE ops e ⟨some d, .build t parts, ty, pos, af, g⟩ = some none := by exact rfl) (hp : parts = ⟨lo⟩ := by exact rfl) (hvs : evps e lo = some vs := by exact rfl) (ht : T.ty t = some (.struct fs) := by exact rfl) (hi : T.inf t = some (z, m, bytes) := by exact rfl) (hz : z.cells = ⟨zs⟩ := by exact rfl) (hpl : fs.toList.mapM (fun f => (T.inf f.type).map fun i => (f.offset, i.2.1)) = some pl := by exact rfl) (hf : Instr.fill (fun i => pl[i]?) ⟨zs⟩ vs = some ⟨us⟩ := by exact rfl) (hn : Nat.blt d X.n = true := by exact rfl) :
    GL X ops (⟨some d, .build t parts, ty, pos, af, g⟩ :: l) k e w := GL.cons (Step.build T hg hp hvs ht hi hz hpl hf hn h)
/-! Operations that make or turn memory, and calls. -/
theorem sAl (T : Tb X.P) {t : TypeId} {z : Value} {s b : Nat} {us : List Value}
    (h : ∀ w', Bx w' w.heap.size us → w'.heap.size = w.heap.size + 1 → Ext w w' → GL X ops l k ((d, none, ptr w.heap.size) :: e) w') (hg : guardE ops e ⟨some d, .alloc t, ty, pos, af, g⟩ = some none := by exact rfl)
    (hi : T.inf t = some (z, s, b) := by exact rfl) (hv : z.cells = ⟨us⟩ := by exact rfl) (hn : Nat.blt d X.n = true := by exact rfl) :
    GL X ops (⟨some d, .alloc t, ty, pos, af, g⟩ :: l) k e w := GL.cons (Step.alloc T hg hi hv hn h)
/-- a whole box is stored into -/
theorem sSt (T : Tb X.P) {x y : Operand} {t : TypeId} {v z : Value} {vs us : List Value} {s by_ b : Nat}
    (h : ∀ w', Bx w' b vs → Wr b w w' → GL X ops l k e w') (hg : guardE ops e ⟨none, .store t x y, ty, pos, af, g⟩ = some none := by exact rfl)
    (hx : Op1 e none x (ptr b) := by exact Op1.of rfl (by first | exact fun _ => rfl | exact fun h => h | exact fun h => bL h | exact fun h => bL (bL h) | exact fun h => bL (bL (bL h)))) (hy : Op1 e none y v := by exact Op1.of rfl (by first | exact fun _ => rfl | exact fun h => h | exact fun h => bL h | exact fun h => bL (bL h) | exact fun h => bL (bL (bL h)))) (hi : T.inf t = some (z, s, by_) := by exact rfl) (hv : v.cells = ⟨vs⟩ := by first | exact Sli.cells (by assumption) | exact Owns.cells (by assumption) | exact rfl) (hs : vs.length = s := by exact rfl) (h1 : ∀ v ∈ vs, v.oneCell' = true := by first | exact Sli.one (by assumption) | exact Sli.one (Owns.sli (by assumption)) | simp [Value.oneCell', S, U])
    (hb : Bx w b us := by assumption) (hl : us.length = s := by exact rfl) :
    GL X ops (⟨none, .store t x y, ty, pos, af, g⟩ :: l) k e w := GL.cons (Step.store0 T hg hx hy hi hv hs h1 hb hl h)
theorem sCall {f : FuncId} {args : Array Operand} {ats : Array TypeId} {lo : List Operand} {vs : List Value} {Q : Value → World → Prop} (hf : Callable X.P f) (hc : Ret X.P f ⟨vs⟩ w Q)
    (h : ∀ v w', Q v w' → GL X ops l k ((d, none, v) :: e) w') (hg : guardE ops e ⟨some d, .call { callee := .value (.func f), args := args, argTypes := ats }, ty, pos, af, g⟩ = some none := by exact rfl)
    (ha : args = ⟨lo⟩ := by exact rfl) (hvs : evs e lo = some vs := by exact rfl) (hn : Nat.blt d X.n = true := by exact rfl) :
    GL X ops (⟨some d, .call { callee := .value (.func f), args := args, argTypes := ats }, ty, pos, af, g⟩ :: l) k e w := GL.cons (Step.callF hg ha hvs hf hn hc h)
/-- a call, guarded or not, that hands back v and only adds memory -/
theorem sCallx {f : FuncId} {args : Array Operand} {ats : Array TypeId} {lo : List Operand} {vs : List Value} {v : Value} (hf : Callable X.P f) (hc : cv c = true → Ret X.P f ⟨vs⟩ w fun r w' => r = v ∧ Ext w w')
    (h : ∀ w', Ext w w' → GL X ops l k ((d, c, v) :: e) w') (hg : guardE ops e ⟨some d, .call { callee := .value (.func f), args := args, argTypes := ats }, ty, pos, af, g⟩ = some c := by exact rfl)
    (ha : args = ⟨lo⟩ := by exact rfl) (hvs : OpL e c lo vs := by repeat (first | exact OpL.nil | refine OpL.cons (Op1.of rfl (by first | exact fun _ => rfl | exact fun h => h | exact fun h => bL h | exact fun h => bL (bL h) | exact fun h => bL (bL (bL h)))) ?_)) (hn : Nat.blt d X.n = true := by exact rfl) :
    GL X ops (⟨some d, .call { callee := .value (.func f), args := args, argTypes := ats }, ty, pos, af, g⟩ :: l) k e w := GL.cons (Step.callX hg ha hvs hf hn hc h)
/-- append onto a row of one's own -/
theorem sApp (T : Tb X.P) {x y : Operand} {t et : TypeId} {v u z : Value} {q bytes B : Nat} {xs ys : List (List Value)} (hv : Owns w B v et q xs) (hu : Sli w u q ys)
    (h : ∀ v' w', Owns w' B v' et q (xs ++ ys) → Grew B v w w' → GL X ops l k ((d, none, v') :: e) w')
    (h1 : ∀ y ∈ ys, ∀ c ∈ y, c.oneCell' = true := by intro y hy c hc; simp only [List.mem_cons, List.not_mem_nil, or_false] at hy; subst hy; simp only [List.mem_cons, List.not_mem_nil, or_false] at hc; rcases hc with rfl <;> rfl)
    (hg : guardE ops e ⟨some d, .call { callee := .builtin .append, args := #[x, y], argTypes := #[t, t] }, ty, pos, af, g⟩ = some none := by exact rfl)
    (hx : Op1 e none x v := by exact Op1.of rfl (by first | exact fun _ => rfl | exact fun h => h | exact fun h => bL h | exact fun h => bL (bL h) | exact fun h => bL (bL (bL h)))) (hy : Op1 e none y u := by exact Op1.of rfl (by first | exact fun _ => rfl | exact fun h => h | exact fun h => bL h | exact fun h => bL (bL h) | exact fun h => bL (bL (bL h)))) (ht : T.ty t = some (.slice et) := by exact rfl) (hi : T.inf et = some (z, q, bytes) := by exact rfl) (hk : Nat.blt 0 q = true := by exact rfl) (hz : z.cells.size = q := by exact rfl) (hn : Nat.blt d X.n = true := by exact rfl)
    (hb : (xs.length + ys.length) * bytes ≤ 140737488355328 := by simp only [List.length_map, List.length_append, List.length_cons, List.length_nil, List.length_take, List.length_drop]; omega)
    (hl : xs.length + ys.length ≤ 140737488355328 := by simp only [List.length_map, List.length_append, List.length_cons, List.length_nil, List.length_take, List.length_drop]; omega)
    (hB : B ≤ w.heap.size := by omega) :
    GL X ops (⟨some d, .call { callee := .builtin .append, args := #[x, y], argTypes := #[t, t] }, ty, pos, af, g⟩ :: l) k e w := GL.cons (Step.append T hg hx hy ht hi hk hz hv hu h1 hb hl hB hn h)
theorem sBs' (T : Tb X.P) {t et : TypeId} {n q bytes : Nat} {z : Value} {zs : List Value} {parts : Array (Nat × Operand)} {lo : List (Nat × Operand)} {vs : List (Nat × Value)} (xs : List (List Value))
    (h : ∀ v w', Owns w' w.heap.size v et q xs → w'.heap.size = w.heap.size + 1 → Ext w w' → GL X ops l k ((d, none, v) :: e) w')
    (hg : guardE ops e ⟨some d, .buildSlice t n parts, ty, pos, af, g⟩ = some none := by exact rfl)
    (hp : parts = ⟨lo⟩ := by exact rfl) (hvs : evps e lo = some vs := by exact rfl) (ht : T.ty t = some (.slice et) := by exact rfl) (hi : T.inf et = some (z, q, bytes) := by exact rfl) (hz : z.cells = ⟨zs⟩ := by exact rfl) (hzl : zs.length = q := by exact rfl) (hk : Nat.blt 0 q = true := by exact rfl)
    (hfill : Instr.fill (fun i => some (i * q, q)) ⟨if n * q = 0 then [] else zeros zs (n * q)⟩ vs = some ⟨xs.flatten⟩ := by rfl) (hsm : Nat.ble (n * q) 1000 = true := by exact rfl)
    (hlen : xs.length = n := by rfl) (hkl : ∀ x ∈ xs, x.length = q := by simp) (hn : Nat.blt d X.n = true := by exact rfl) :
    GL X ops (⟨some d, .buildSlice t n parts, ty, pos, af, g⟩ :: l) k e w := GL.cons (Step.buildSlice T xs hg hp hvs ht hi hz hzl hk hfill hsm hlen hkl hn h)
end

/-! A drawn region in its order: simple operations by reckoning. -/
inductive ResM where
  | done (l : List (Oper × Bool)) (e : Env) (L : List Prop)
  | no
def goM {P : Program} (T : Tb P) (n : Nat) (ops : Array Oper) : List (Oper × Bool) → Env → List Prop → ResM
  | [], e, L => .done [] e L
  | (o, true) :: l, e, L => match simp1 T ops n o e with
    | some (d, c, v, M) => goM T n ops l ((d, c, v) :: e) (M ++ L)
    | none => .done ((o, true) :: l) e L
  | (o, false) :: l, e, L => .done ((o, false) :: l) e L
theorem goM_ok {X : Cx} (T : Tb X.P) {ops : Array Oper} {S : World → Prop} {N : Env → World → Prop} {w : World} : ∀ (l : List (Oper × Bool)) (e : Env) (L : List Prop) {l' : List (Oper × Bool)} {e' : Env} {L' : List Prop},
    goM T X.n ops l e L = .done l' e' L' → AllP L' → GMN X ops S N l' e' w → AllP L ∧ GMN X ops S N l e w
  | [], e, L, l', e', L', h, hL, hs => by simp only [goM] at h; cases h; exact ⟨hL, hs⟩
  | (o, false) :: l, e, L, l', e', L', h, hL, hs => by simp only [goM] at h; cases h; exact ⟨hL, hs⟩
  | (o, true) :: l, e, L, l', e', L', h, hL, hs => by
    simp only [goM] at h
    split at h
    · rename_i d c v M hm
      obtain ⟨h1, h2⟩ := goM_ok T _ _ _ h hL hs
      obtain ⟨h3, h4, h5⟩ := simp1_step T hm h1.app.1
      exact ⟨h1.app.2, GM.read (fun w' _ => h3 ⟨rfl, rfl⟩) h4 h5 h2⟩
    · cases h; exact ⟨hL, hs⟩
section
variable {X : Cx} {ops : Array Oper} {e e' : Env} {w : World} {S : World → Prop} {N : Env → World → Prop} {l l' : List (Oper × Bool)} {L : List Prop}
theorem mm (T : Tb X.P) (h : GMN X ops S N l' e' w) (hr : goM T X.n ops l e [] = .done l' e' L := by exact rfl)
    (hL : AllP L := by repeat (first | exact trivial | refine And.intro (by first | exact fun _ => rfl | exact fun h => h | exact fun h => bL h | exact fun h => bL (bL h) | exact fun h => bL (bL (bL h)) | exact fun _ _ => rfl | exact fun _ h => h | exact fun _ h => bNot h | exact fun h k => bAnd h k | exact fun h k => bAnd h (bNot k)) ?_)) : GMN X ops S N l e w := (goM_ok T l e [] hr hL h).2
end
end Go.Vg
namespace Go.Vg
/-- steps that need no word: what is left of them is asked -/
structure Held (Q : Prop) : Prop where
  of : Q
theorem rn {Q R : Prop} (h : R) (q : Held R → Q := by (intro hh; (try (first | refine gl tb ?_ | refine gg tb ?_ | refine ll tb ?_ | refine lg tb ?_); repeat ((first | refine G.condT rfl ?_ | refine G.condF rfl ?_ | refine sFa tb ?_ | refine sLd tb ?_ | refine sLa tb ?_ | refine sLen tb ?_ | refine sFd tb ?_ | refine sBd tb ?_ | refine sBa tb ?_); try (first | refine gl tb ?_ | refine gg tb ?_ | refine ll tb ?_ | refine lg tb ?_))); exact hh.of)) : Q := q ⟨h⟩
theorem rg {Q R : Prop} (h : R) (q : Held R → Q := by (intro hh; (try (first | refine gl tb ?_ | refine gg tb ?_ | refine ll tb ?_ | refine lg tb ?_); repeat ((first | refine G.condT rfl ?_ | refine G.condF rfl ?_); try (first | refine gl tb ?_ | refine gg tb ?_ | refine ll tb ?_ | refine lg tb ?_))); exact hh.of)) : Q := q ⟨h⟩
theorem rd {Q R : Prop} (h : R) (q : Held R → Q := by (intro hh; (try (refine mm tb ?_); repeat ((first | refine dFa tb ?_ | refine dLd tb ?_ | refine dLa tb ?_ | refine dLen tb ?_ | refine dFd tb ?_); try (refine mm tb ?_))); exact hh.of)) : Q := q ⟨h⟩
end Go.Vg
end
section
namespace Go.Vg
open Go.RowKit

/-- bytes as a row's elements -/
def bysC (l : List UInt8) : List (List Value) := l.map fun b => [U b]
theorem bysC_len (l : List UInt8) : (bysC l).length = l.length := by simp [bysC]
theorem bysC_get {l : List UInt8} {i : Nat} (h : i < l.length) : (bysC l)[i]? = some [U (l.getD i 0)] := by
  simp [bysC, List.getD, h]
theorem bysC_k (l : List UInt8) : ∀ x ∈ bysC l, x.length = 1 := by
  intro y hy
  obtain ⟨b, _, rfl⟩ := List.mem_map.1 hy
  rfl
/-- a row of bytes -/
abbrev By (w : World) (v : Value) (l : List UInt8) : Prop := Sli w v 1 (bysC l)

theorem wrap_u64 {n : Int} (h0 : 0 ≤ n) (h1 : n ≤ 18446744073709551615) : IntKind.u64.wrap n = n := by
  have hb : IntKind.u64.bits = 64 := rfl
  have hs : IntKind.u64.signed = false := rfl
  unfold IntKind.wrap
  simp only [hb, hs, Bool.false_and]
  have e1 : (2 : Int) ^ 64 = 18446744073709551616 := by decide
  rw [e1]
  simp only [Bool.false_eq_true, if_false]
  omega
section
variable {X : Cx} {ops : Array Oper} {l : List Oper} {k : List Kt} {e : Env} {w : World} {N : Env → World → Prop} {d : Nat} {c : Option Bool} {ty : TypeId} {pos : String} {af : Array Edge} {g : Option (Nat × Bool)}

/-- shifted to the right by a fixed number -/
theorem Step.shr {xt yt : TypeId} {x y : Operand} {q qy : IntKind} {a r : Int} {n : Nat} (hg : guardE ops e ⟨some d, .binOp .shr xt x y yt, ty, pos, af, g⟩ = some c)
    (hx : Op1 e c x (.int q a)) (hy : Op1 e c y (.int qy n)) (hr : a / 2 ^ n = r) (hb : n ≤ q.bits) (hn : Nat.blt d X.n = true)
    (h : N ((d, c, .int q r) :: e) w) : Step X ops ⟨some d, .binOp .shr xt x y yt, ty, pos, af, g⟩ e w N :=
  Step.quiet rfl (by simpa [Nat.blt_eq] using hn) hg (fun _ hh => by cases hh) (fun t hf hc => by
    have h1 := shift_shr q qy a n (by omega) (by omega)
    simp only [Int.toNat_natCast, hr] at h1
    simp only [execOp, hx.val hf hc, hy.val hf hc]
    simp [go_sem, h1]) h
/-- an element of an array value -/
theorem Step.indexA (T : Tb X.P) {x i : Operand} {st et : TypeId} {n : Nat} {us : List Value} {u z : Value} {ed : TypeDesc} {by_ : Nat} {m : Int} (j : Nat)
    (hg : guardE ops e ⟨some d, .index st x i, ty, pos, af, g⟩ = some c)
    (hx : Op1 e c x (.agg ⟨us⟩)) (hi : Op1 e c i (.int .i64 m)) (ht : T.ty st = some (.array n et)) (he : T.ty et = some ed) (ha : aggT ed = false) (hz : T.inf et = some (z, 1, by_))
    (hj : cv c = true → m = j ∧ j < n ∧ us[j]? = some u) (hn : Nat.blt d X.n = true)
    (h : N ((d, c, u) :: e) w) : Step X ops ⟨some d, .index st x i, ty, pos, af, g⟩ e w N :=
  Step.quiet rfl (by simpa [Nat.blt_eq] using hn) hg (fun _ hh => by cases hh) (fun t hf hc => by
    obtain ⟨rfl, h1, h2⟩ := hj hc
    simp only [execOp, hx.val hf hc, hi.val hf hc]
    simp [Instr.index, asIntOf, run_underlying (T.ok _ _ ht), h1, run_sizeOf hz, part, run_isAgg (T.ok _ _ he), ha, h2]) h

/-- an array value -/
theorem Step.buildA (T : Tb X.P) {t k q by1 by2 m et : Nat} {z z2 : Value} {zs us : List Value} {parts : Array (Nat × Operand)} {lo : List (Nat × Operand)} {vs : List (Nat × Value)}
    (hg : guardE ops e ⟨some d, .build t parts, ty, pos, af, g⟩ = some none)
    (hp : parts = ⟨lo⟩) (hvs : evps e lo = some vs) (ht : T.ty t = some (.array m et)) (hi : T.inf t = some (z, k, by1)) (hi2 : T.inf et = some (z2, q, by2)) (hz : z.cells = ⟨zs⟩)
    (hfill : Instr.fill (fun i => some (i * q, q)) ⟨zs⟩ vs = some ⟨us⟩) (hn : Nat.blt d X.n = true)
    (h : N ((d, none, .agg ⟨us⟩) :: e) w) : Step X ops ⟨some d, .build t parts, ty, pos, af, g⟩ e w N := by
  obtain ⟨i, hi1, hi2', hi3, hi4⟩ := T.iok _ _ _ _ hi
  have hT := T.ok _ _ ht
  have hz' : (zeroValue t).run X.P w = .ok z w := by simp [zeroValue, typeInfo, hi1, hi2']
  refine Step.quiet rfl (by simpa [Nat.blt_eq] using hn) hg (fun _ hh => by cases hh) (fun t' hf _ => ?_) h
  have h1 := evps_map (ds := X.ds) hf hvs
  subst hp
  have h2 : (Array.mk lo).map (fun x : Nat × Operand => match x with | (i, x) => (i, (Act.mk t' X.ds).eval x)) = ⟨vs⟩ := by
    rw [show (fun x : Nat × Operand => match x with | (i, x) => (i, (Act.mk t' X.ds).eval x)) = (fun p => (p.1, (Act.mk t' X.ds).eval p.2)) from rfl]
    simp [h1]
  simp only [execOp, Instr.build, h2, Sem.run_bind, run_underlying hT, Result.andThen_ok, hz', hz, run_sizeOf hi2, hfill, Sem.run_pure]
theorem sBa (T : Tb X.P) {t k' q by1 by2 m et : Nat} {z z2 : Value} {zs us : List Value} {parts : Array (Nat × Operand)} {lo : List (Nat × Operand)} {vs : List (Nat × Value)}
    (h : GL X ops l k ((d, none, .agg ⟨us⟩) :: e) w) (hg : guardE ops e ⟨some d, .build t parts, ty, pos, af, g⟩ = some none := by exact rfl)
    (hp : parts = ⟨lo⟩ := by exact rfl) (hvs : evps e lo = some vs := by exact rfl) (ht : T.ty t = some (.array m et) := by exact rfl) (hi : T.inf t = some (z, k', by1) := by exact rfl) (hi2 : T.inf et = some (z2, q, by2) := by exact rfl) (hz : z.cells = ⟨zs⟩ := by exact rfl)
    (hfill : Instr.fill (fun i => some (i * q, q)) ⟨zs⟩ vs = some ⟨us⟩ := by exact rfl) (hn : Nat.blt d X.n = true := by exact rfl) :
    GL X ops (⟨some d, .build t parts, ty, pos, af, g⟩ :: l) k e w := GL.cons (Step.buildA T hg hp hvs ht hi hi2 hz hfill hn h)

/-- a call that computes and turns nothing -/
theorem Step.callQ {f : FuncId} {args : Array Operand} {ats : Array TypeId} {lo : List Operand} {vs : List Value} {v : Value}
    (hg : guardE ops e ⟨some d, .call { callee := .value (.func f), args := args, argTypes := ats }, ty, pos, af, g⟩ = some c)
    (ha : args = ⟨lo⟩) (hvs : OpL e c lo vs) (hf : Callable X.P f) (hn : Nat.blt d X.n = true) (hc : cv c = true → Ret X.P f ⟨vs⟩ w fun r w' => r = v ∧ w' = w)
    (h : N ((d, c, v) :: e) w) : Step X ops ⟨some d, .call { callee := .value (.func f), args := args, argTypes := ats }, ty, pos, af, g⟩ e w N := by
  intro t K Q hft hK
  rw [guardE_wanted hft hg]
  cases hcv : cv c with
  | false =>
    rw [if_neg (by simp)]
    have := hK _ _ _ h (hft.put (by simpa [Nat.blt_eq] using hn) c v)
    simp only [gval, hcv] at this
    exact this
  | true =>
    rw [if_pos rfl]
    refine ⟨fun _ _ => trivial, ?_⟩
    rw [Oper.semAt_eq _ _ _ (fun _ hh => by cases hh)]
    have h1 := hvs.map (ds := X.ds) hft hcv
    subst ha
    have h2 : (Array.mk lo).map (Act.mk t X.ds).eval = ⟨vs⟩ := by simp [h1]
    have hr : (execOp (Act.mk t X.ds).eval ⟨some d, .call { callee := .value (.func f), args := ⟨lo⟩, argTypes := ats }, ty, pos, af, g⟩).run X.P w = .ok (.enter f ⟨vs⟩) w := by
      simp only [execOp, resolve, h2, Act.eval, Deferred.ofValue, Sem.run_bind, Sem.run_pure, Result.andThen_ok, invoke, Array.empty_append, Array.append_empty, run_callFunc hf]
    show Oper.uponIn _ _ _ _ _ _ _ ((execOp (Act.mk t X.ds).eval _).run X.P w)
    rw [hr]
    refine ⟨fun h => by simp [Fence.wide] at h, callsW (Calls.mono (hc hcv) ?_)⟩
    rintro en w' ⟨r, rfl, rfl, rfl⟩
    show K (Act.put _ (some d) r) _
    have := hK _ _ _ h (hft.put (by simpa [Nat.blt_eq] using hn) c r)
    simp only [gval, hcv] at this
    exact this
theorem dCallq {S : World → Prop} {lb : List (Oper × Bool)} {f : FuncId} {args : Array Operand} {ats : Array TypeId} {lo : List Operand} {vs : List Value} {v : Value} (hf : Callable X.P f) (hc : ∀ w', S w' → cv c = true → Ret X.P f ⟨vs⟩ w' fun r w'' => r = v ∧ w'' = w')
    (h : GMN X ops S N lb ((d, c, v) :: e) w) (hg : guardE ops e ⟨some d, .call { callee := .value (.func f), args := args, argTypes := ats }, ty, pos, af, g⟩ = some c := by exact rfl)
    (ha : args = ⟨lo⟩ := by exact rfl) (hvs : OpL e c lo vs := by repeat (first | exact OpL.nil | refine OpL.cons (Op1.of rfl (by first | exact fun _ => rfl | exact fun h => h | exact fun h => bL h | exact fun h => bL (bL h))) ?_)) (hn : Nat.blt d X.n = true := by exact rfl) :
    GMN X ops S N ((⟨some d, .call { callee := .value (.func f), args := args, argTypes := ats }, ty, pos, af, g⟩, true) :: lb) e w := GM.read (fun w' hS => Step.callQ hg ha hvs hf hn (hc w' hS) ⟨rfl, rfl⟩) rfl hn h
/-- the other sign -/
theorem Step.neg {xt : TypeId} {x : Operand} {q : IntKind} {a r : Int} (hg : guardE ops e ⟨some d, .unOp .neg xt x, ty, pos, af, g⟩ = some c)
    (hx : Op1 e c x (.int q a)) (hr : q.wrap (0 - a) = r) (hn : Nat.blt d X.n = true)
    (h : N ((d, c, .int q r) :: e) w) : Step X ops ⟨some d, .unOp .neg xt x, ty, pos, af, g⟩ e w N :=
  Step.quiet rfl (by simpa [Nat.blt_eq] using hn) hg (fun _ hh => by cases hh) (fun t hf hc => by
    simp only [execOp, hx.val hf hc]
    simp [go_sem, Op.intArith, ← hr]) h
theorem sShr {xt yt : TypeId} {x y : Operand} {q qy : IntKind} {a r : Int} {n : Nat} (hr : a / 2 ^ n = r) (h : GL X ops l k ((d, c, .int q r) :: e) w)
    (hg : guardE ops e ⟨some d, .binOp .shr xt x y yt, ty, pos, af, g⟩ = some c := by exact rfl) (hx : Op1 e c x (.int q a) := by exact Op1.of rfl (by first | exact fun _ => rfl | exact fun h => h)) (hy : Op1 e c y (.int qy n) := by exact Op1.of rfl (by first | exact fun _ => rfl | exact fun h => h)) (hb : n ≤ q.bits := by exact of_decide_eq_true rfl) (hn : Nat.blt d X.n = true := by exact rfl) :
    GL X ops (⟨some d, .binOp .shr xt x y yt, ty, pos, af, g⟩ :: l) k e w := GL.cons (Step.shr hg hx hy hr hb hn h)
theorem sIx (T : Tb X.P) {x i : Operand} {st et : TypeId} {n : Nat} {us : List Value} {u z : Value} {ed : TypeDesc} {by_ : Nat} {m : Int} (j : Nat) (hj : cv c = true → m = j ∧ j < n ∧ us[j]? = some u) (h : GL X ops l k ((d, c, u) :: e) w)
    (hg : guardE ops e ⟨some d, .index st x i, ty, pos, af, g⟩ = some c := by exact rfl) (hx : Op1 e c x (.agg ⟨us⟩) := by exact Op1.of rfl (by first | exact fun _ => rfl | exact fun h => h)) (hi : Op1 e c i (.int .i64 m) := by exact Op1.of rfl (by first | exact fun _ => rfl | exact fun h => h))
    (ht : T.ty st = some (.array n et) := by exact rfl) (he : T.ty et = some ed := by exact rfl) (ha : aggT ed = false := by exact rfl) (hz : T.inf et = some (z, 1, by_) := by exact rfl) (hn : Nat.blt d X.n = true := by exact rfl) :
    GL X ops (⟨some d, .index st x i, ty, pos, af, g⟩ :: l) k e w := GL.cons (Step.indexA T j hg hx hi ht he ha hz hj hn h)
end
end Go.Vg
end
section
namespace Go.Vg
open Go.RowKit

section steps
variable {X : Cx} {ops : Array Oper} {l : List Oper} {k : List Kt} {e : Env} {w : World} {N : Env → World → Prop} {d : Nat} {c : Option Bool} {ty : TypeId} {pos : String} {af : Array Edge} {g : Option (Nat × Bool)}
theorem Step.rem {xt yt : TypeId} {x y : Operand} {q : IntKind} {a b r : Int} (hg : guardE ops e ⟨some d, .binOp .rem xt x y yt, ty, pos, af, g⟩ = some c)
    (hx : Op1 e c x (.int q a)) (hy : Op1 e c y (.int q b)) (hb : cv c = true → b ≠ 0) (hr : a.tmod b = r) (hn : Nat.blt d X.n = true)
    (h : N ((d, c, .int q r) :: e) w) : Step X ops ⟨some d, .binOp .rem xt x y yt, ty, pos, af, g⟩ e w N :=
  Step.quiet rfl (by simpa [Nat.blt_eq] using hn) hg (fun _ hh => by cases hh) (fun t hf hc => by
    have h0 := hb hc
    simp only [execOp, hx.val hf hc, hy.val hf hc]
    simp [go_sem, Op.intDiv, h0, hr]) h
theorem Step.quo {xt yt : TypeId} {x y : Operand} {q : IntKind} {a b r : Int} (hg : guardE ops e ⟨some d, .binOp .quo xt x y yt, ty, pos, af, g⟩ = some c)
    (hx : Op1 e c x (.int q a)) (hy : Op1 e c y (.int q b)) (hb : cv c = true → b ≠ 0) (hr : q.wrap (a.tdiv b) = r) (hn : Nat.blt d X.n = true)
    (h : N ((d, c, .int q r) :: e) w) : Step X ops ⟨some d, .binOp .quo xt x y yt, ty, pos, af, g⟩ e w N :=
  Step.quiet rfl (by simpa [Nat.blt_eq] using hn) hg (fun _ hh => by cases hh) (fun t hf hc => by
    have h0 := hb hc
    simp only [execOp, hx.val hf hc, hy.val hf hc]
    simp [go_sem, Op.intDiv, h0, hr]) h
theorem sRem {xt yt : TypeId} {x y : Operand} {q : IntKind} {a b r : Int} (hr : a.tmod b = r) (h : GL X ops l k ((d, c, .int q r) :: e) w) (hg : guardE ops e ⟨some d, .binOp .rem xt x y yt, ty, pos, af, g⟩ = some c := by exact rfl)
    (hx : Op1 e c x (.int q a) := by exact Op1.of rfl (by first | exact fun _ => rfl | exact fun h => h | exact fun h => bL h)) (hy : Op1 e c y (.int q b) := by exact Op1.of rfl (by first | exact fun _ => rfl | exact fun h => h | exact fun h => bL h))
    (hb : cv c = true → b ≠ 0 := by intro _; omega) (hn : Nat.blt d X.n = true := by exact rfl) :
    GL X ops (⟨some d, .binOp .rem xt x y yt, ty, pos, af, g⟩ :: l) k e w := GL.cons (Step.rem hg hx hy hb hr hn h)
end steps

theorem Df.lt {r : Nat} {w : World} (h : Df r w) : r < w.heap.size := (Array.getElem?_eq_some_iff.1 h).1
theorem Df.kept {l r : Nat} {w w' : World} (h : Df r w) (hk : Kept l w w') : Df r w' := hk.block h (fun _ hh => by cases hh)

theorem Df.outW {r r' : Nat} {w : World} (h : Df r w) (hne : r ≠ r') : Df r (outW r' w) := by
  unfold Df at *
  rw [World.putObj_heap_other hne]; exact h
end Go.Vg
end
section
namespace Go.Vg
open Go.RowKit

theorem run_storeCells_t (P : Program) (t : TypeId) : ∀ (vs : List Value) (b o i : Nat) (us : List Value) (w : World), w.heap[b]? = some (.cells ⟨us⟩ t (0, 0)) → o + i + vs.length ≤ us.length → (∀ v ∈ vs, v.oneCell' = true) →
    ∃ w', (storeCells ⟨b, o, none⟩ vs i).run P w = .ok () w' ∧ Wr b w w' ∧ w'.heap[b]? = some (.cells ⟨us.take (o + i) ++ vs ++ us.drop (o + i + vs.length)⟩ t (0, 0))
  | [], b, o, i, us, w, h, _, _ => ⟨w, by simp [storeCells], Wr.refl b w, by simpa using h⟩
  | v :: r, b, o, i, us, w, hb, hl, h1 => by
    simp only [List.length_cons] at hl
    have hc : (w.cell? ⟨b, o + i, none⟩).isSome = true := by
      rw [cell_of_row w b (o + i) ⟨us⟩ t (0, 0) hb]; simp; omega
    obtain ⟨u0, hu0⟩ := Option.isSome_iff_exists.1 hc
    have hf : w.frozen? ⟨b, o + i, none⟩ = false := frozen_of_row w b (o + i) ⟨us⟩ t hb
    have hst := run_store P w ⟨b, o + i, none⟩ v .plain (h1 v (by simp))
    rw [hu0] at hst
    simp only [hf, Bool.false_eq_true, if_false] at hst
    have hb2 : (w.setCell ⟨b, o + i, none⟩ v).heap[b]? = some (.cells ⟨us.set (o + i) v⟩ t (0, 0)) := by
      have := heap_setCell_same w b (o + i) ⟨us⟩ t v hb
      simpa using this
    obtain ⟨w', hr, hw, hx⟩ := run_storeCells_t P t r b o (i + 1) _ _ hb2 (by simp; omega) (fun u hu => h1 u (by simp [hu]))
    refine ⟨w', ?_, (Wr.setCell w b (o + i) v).trans hw, ?_⟩
    · simp only [storeCells, Sem.run_bind, Addr.add_lit, hst, Result.andThen_ok, hr]
    · have e : (us.set (o + i) v).take (o + (i + 1)) ++ r ++ (us.set (o + i) v).drop (o + (i + 1) + r.length) = us.take (o + i) ++ (v :: r) ++ us.drop (o + i + (v :: r).length) := by
        have h3 : o + i < us.length := by omega
        rw [show o + (i + 1) = (o + i) + 1 by omega, List.take_set, List.drop_set_of_lt (by omega)]
        rw [List.take_succ_eq_append_getElem (by simpa using h3)]
        rw [List.set_append_right _ _ (by simp; omega)]
        simp [show min (o + i) us.length = o + i by omega]
        congr 1; omega
      rw [← e]; exact hx

theorem flatten_take {k : Nat} : ∀ (xs : List (List Value)) (j : Nat), (∀ x ∈ xs, x.length = k) → (xs.take j).flatten = xs.flatten.take (j * k)
  | [], j, _ => by simp
  | x :: xs, 0, _ => by simp
  | x :: xs, j + 1, h => by
    have hx := h x (by simp)
    rw [List.take_succ_cons, List.flatten_cons, List.flatten_cons, flatten_take xs j (fun y hy => h y (by simp [hy])), Nat.add_mul, Nat.one_mul, Nat.add_comm, List.take_append_of_le_length' hx]
  where
  List.take_append_of_le_length' {x : List Value} {l : List Value} {k m : Nat} (hx : x.length = k) : (x ++ l).take (k + m) = x ++ l.take m := by
    rw [List.take_append, List.take_of_length_le (by omega)]
    congr 2; omega
theorem flatten_drop {k : Nat} (xs : List (List Value)) (j : Nat) (h : ∀ x ∈ xs, x.length = k) : (xs.drop j).flatten = xs.flatten.drop (j * k) := by
  have h1 := flatten_take xs j h
  have h2 : xs.flatten = (xs.take j).flatten ++ (xs.drop j).flatten := by rw [← List.flatten_append, List.take_append_drop]
  by_cases hj : j ≤ xs.length
  · have hl : (xs.take j).flatten.length = j * k := by
      rw [flatten_length _ (fun x hx => h x (List.mem_of_mem_take hx)), List.length_take, Nat.min_eq_left hj]
    rw [h2, List.drop_append_of_le_length (by omega), List.drop_of_length_le (l := (xs.take j).flatten) (by omega), List.nil_append]
  · rw [List.drop_of_length_le (by omega), List.flatten_nil, List.drop_of_length_le]
    rw [flatten_length _ h]; exact Nat.mul_le_mul_right _ (by omega)
theorem flatten_set {k : Nat} (xs : List (List Value)) (j : Nat) (x : List Value) (h : ∀ x ∈ xs, x.length = k) (_ : x.length = k) (hj : j < xs.length) :
    (xs.set j x).flatten = xs.flatten.take (j * k) ++ x ++ xs.flatten.drop (j * k + k) := by
  have e : xs.set j x = xs.take j ++ x :: xs.drop (j + 1) := by
    rw [List.set_eq_take_append_cons_drop, if_pos hj]
  rw [e, List.flatten_append, List.flatten_cons, flatten_take xs j h, flatten_drop xs (j + 1) h, Nat.add_mul, Nat.one_mul, List.append_assoc]

theorem Grew.trans {B : Nat} {u : Value} {w w1 w2 : World} (h : Grew B u w w1) (k : Grew B u w1 w2) : Grew B u w w2 :=
  ⟨fun _ hb => k.below _ (h.below _ hb), Nat.le_trans h.size k.size, fun q hq hne => (k.block q (Nat.lt_of_lt_of_le hq h.size) hne).trans (h.block q hq hne)⟩
theorem Grew.refl (B : Nat) (u : Value) (w : World) : Grew B u w w := ⟨fun _ h => h, Nat.le_refl _, fun _ _ _ => rfl⟩

section
variable {X : Cx} {ops : Array Oper} {l : List Oper} {kk : List Kt} {e : Env} {w : World} {N : Env → World → Prop} {d : Nat} {c : Option Bool} {ty : TypeId} {pos : String} {af : Array Edge} {g : Option (Nat × Bool)}

/-- an element of a row of one's own is stored -/
theorem Step.storeRow (T : Tb X.P) {x y : Operand} {t : TypeId} {v u z : Value} {vs : List Value} {k by_ B et j : Nat} {xs : List (List Value)} (hg : guardE ops e ⟨none, .store t x y, ty, pos, af, g⟩ = some none)
    (hx : Op1 e none x (padd v (j * k))) (hy : Op1 e none y u) (hi : T.inf t = some (z, k, by_)) (hv : u.cells = ⟨vs⟩) (hs : vs.length = k) (h1 : ∀ v ∈ vs, v.oneCell' = true)
    (ho : Owns w B v et k xs) (hj : j < xs.length)
    (h : ∀ w', Owns w' B v et k (xs.set j vs) → Grew B v w w' → N e w') : Step X ops ⟨none, .store t x y, ty, pos, af, g⟩ e w N := by
  have ho' := ho
  obtain ⟨⟨hl, hr⟩, hk, hb⟩ := ho
  rcases hr with ⟨rfl, hn⟩ | ⟨gb, cap, ⟨us⟩, rfl, hB, hgb, hc, hm, hsz, htk⟩
  · omega
  · have hle : xs.length * k ≤ cap * k := Nat.mul_le_mul_right _ hc
    have hjk : (j + 1) * k ≤ xs.length * k := Nat.mul_le_mul_right _ hj
    rw [Nat.add_mul, Nat.one_mul] at hjk
    have hus : us.length = cap * k := hsz
    simp only at htk
    obtain ⟨w', hrun, hw, hx'⟩ := run_storeCells_t X.P et vs gb (j * k) 0 us w hgb (by omega) h1
    rw [Nat.add_zero, hs] at hx'
    refine Step.effNone rfl hg (fun _ hh => by cases hh) (w' := w') (fun t' hf => ?_) (h w' ?_ ?_)
    · have hp : padd (Value.slice (some ⟨gb, 0, none⟩) xs.length cap) (j * k) = .pointer (some ⟨gb, j * k, none⟩) := by simp [padd, Addr.add_lit]
      have hsz' : ¬ ((⟨vs⟩ : Array Value).size ≠ k) := by simp [hs]
      simp only [execOp, hx.val hf rfl, hy.val hf rfl, hp, Instr.storeAt, Instr.sureAddr, storeVar, Sem.run_bind, Sem.run_pure, Result.andThen_ok, run_sizeOf hi, hv, if_neg hsz', hrun]
    · have hfl := flatten_set xs j vs hk hs hj
      refine ⟨⟨?_, .inr ⟨gb, cap, _, by rw [List.length_set], hB, hx', by rw [List.length_set]; exact hc, hm, ?_, ?_⟩⟩, ?_, by rw [List.length_set]; exact hb⟩
      · rw [flatten_length _ (fun y hy => by
          rcases List.mem_or_eq_of_mem_set hy with hy | rfl
          · exact hk y hy
          · exact hs)]
      · simp only [List.size_toArray, List.length_append, List.length_take, List.length_drop]; omega
      · rw [List.length_set, hfl, ← htk]
        simp only [List.append_assoc]
        rw [List.take_append, List.length_take, Nat.min_eq_left (by omega), List.take_of_length_le (by rw [List.length_take]; omega), List.take_append, hs, List.take_of_length_le (l := vs) (by omega), List.take_take, Nat.min_eq_left (by omega)]
        congr 2
        rw [List.drop_take]
        congr 1; omega
      · intro y hy
        rcases List.mem_or_eq_of_mem_set hy with hy | rfl
        · exact hk y hy
        · exact hs
    · exact ⟨fun w0 hb0 => hb0.wr hw hB, by rw [hw.size]; exact Nat.le_refl _, fun q hq hne => hw.block q (fun e => hne (by rw [e]; rfl))⟩
end
end Go.Vg
end
section
namespace Go.Vg
open Go.RowKit

theorem By.sub {w : World} {v : Value} {l : List UInt8} (h : By w v l) {a b : Nat} (ha : a ≤ b) (hb : b ≤ l.length) : By w (subS v 1 a b) ((l.drop a).take (b - a)) := by
  have := Sli.sub h ha (by rw [bysC_len]; exact hb)
  unfold By bysC at *
  rw [List.map_take, List.map_drop]; exact this
/-- stands for a block, where a row's effect is spoken of -/
def blk (b : Nat) : Value := .slice (some ⟨b, 0, none⟩) 0 0
section
variable {X : Cx} {ops : Array Oper} {l : List Oper} {k : List Kt} {e : Env} {w : World} {N : Env → World → Prop} {S : World → Prop} {lb : List (Oper × Bool)} {d : Nat} {c : Option Bool} {ty : TypeId} {pos : String} {af : Array Edge} {g : Option (Nat × Bool)}
end
end Go.Vg
end
section
namespace Go.Vg
open Go.RowKit

/-- where a row lies behind an append: where it lay, or in new memory -/
def Own2 (w : World) (v v' : Value) : Prop := v'.ownBlock = v.ownBlock ∨ v'.ownBlock = some w.heap.size
theorem Own2.refl (w : World) (v : Value) : Own2 w v v := .inl rfl

section
variable {X : Cx} {ops : Array Oper} {l : List Oper} {kk : List Kt} {e : Env} {w : World} {N : Env → World → Prop} {d : Nat} {c : Option Bool} {ty : TypeId} {pos : String} {af : Array Edge} {g : Option (Nat × Bool)}

end

end Go.Vg
end
section
namespace Go.Vg
open Go.RowKit
section
variable {X : Cx} {ops : Array Oper} {l : List Oper} {k : List Kt} {e : Env} {w : World} {N : Env → World → Prop} {d : Nat} {c : Option Bool} {ty : TypeId} {pos : String} {af : Array Edge} {g : Option (Nat × Bool)}
/-- a call whose arguments may have been made under conditions -/
theorem Step.callO {f : FuncId} {args : Array Operand} {ats : Array TypeId} {lo : List Operand} {vs : List Value} {R : Value → World → Prop}
    (hg : guardE ops e ⟨some d, .call { callee := .value (.func f), args := args, argTypes := ats }, ty, pos, af, g⟩ = some none)
    (ha : args = ⟨lo⟩) (hvs : OpL e none lo vs) (hf : Callable X.P f)
    (hn : Nat.blt d X.n = true) (hc : Ret X.P f ⟨vs⟩ w R)
    (h : ∀ v w', R v w' → N ((d, none, v) :: e) w') : Step X ops ⟨some d, .call { callee := .value (.func f), args := args, argTypes := ats }, ty, pos, af, g⟩ e w N :=
  Step.call rfl (by simpa [Nat.blt_eq] using hn) hg (fun _ hh => by cases hh) (fun t hft => by
    have := hvs.map (ds := X.ds) hft rfl
    subst ha
    have h2 : (Array.mk lo).map (Act.mk t X.ds).eval = ⟨vs⟩ := by simp [this]
    simp only [execOp, resolve, h2, Act.eval, Deferred.ofValue, Sem.run_bind, Sem.run_pure, Result.andThen_ok, invoke, Array.empty_append, Array.append_empty, run_callFunc hf]) hc h
end
end Go.Vg
end
section
namespace Go.Vg
open Go.RowKit

/-- one element more of the room behind a row -/
theorem Owns.up {w : World} {B g cap : Nat} {et k : Nat} {xs : List (List Value)} (h : Owns w B (.slice (some ⟨g, 0, none⟩) xs.length cap) et k xs) (hc : xs.length < cap) (hb : xs.length + 1 ≤ 140737488355328) :
    ∃ y, Owns w B (.slice (some ⟨g, 0, none⟩) (xs.length + 1) cap) et k (xs ++ [y]) := by
  obtain ⟨⟨hl, hr⟩, hk, _⟩ := h
  rcases hr with ⟨hv, _⟩ | ⟨g', cap', cur, hv, hB, hg, hc', hm, hs, ht⟩
  · cases hv
  · cases hv
    have hle : (xs.length + 1) * k ≤ cap * k := Nat.mul_le_mul_right _ hc
    rw [Nat.add_mul, Nat.one_mul] at hle
    have hsz : cur.toList.length = cap * k := by rw [Array.length_toList]; exact hs
    have hy : ((cur.toList.drop (xs.length * k)).take k).length = k := by rw [List.length_take, List.length_drop]; omega
    refine ⟨(cur.toList.drop (xs.length * k)).take k, ⟨?_, .inr ⟨g, cap, cur, by simp, hB, hg, by simp; omega, hm, hs, ?_⟩⟩, ?_, by simp; omega⟩
    · simp only [List.flatten_append, List.length_append, hl, List.flatten_cons, List.flatten_nil, List.append_nil, hy, List.length_cons, List.length_nil, Nat.add_mul, Nat.zero_add, Nat.one_mul]
    · simp only [List.flatten_append, List.length_append, List.flatten_cons, List.flatten_nil, List.append_nil, List.length_cons, List.length_nil, Nat.add_mul, Nat.zero_add, Nat.one_mul]
      rw [← ht, List.take_add]
    · intro x hx
      rcases List.mem_append.1 hx with hx | hx
      · exact hk x hx
      · simp only [List.mem_cons, List.not_mem_nil, or_false] at hx
        subst hx; exact hy

theorem cellsOf {w : World} {a : Addr} {k : Nat} {ys : List (List Value)} {n cap : Nat} (hs : Sli w (.slice (some a) n cap) k ys) (hk : 0 < k) : ∀ j u, ys.flatten[j]? = some u → w.cell? (a.add j) = some u := by
  rcases hs with ⟨h, _⟩ | ⟨a', cap', hv, hsp, hc, hyl, hcell, hyb⟩
  · cases h
  · cases hv
    intro j u hj
    have hj' : j < ys.length * k := by rw [← flatten_length ys hyl]; exact (List.getElem?_eq_some_iff.1 hj).1
    have hq : j / k < ys.length := Nat.div_lt_of_lt_mul (by rw [Nat.mul_comm]; exact hj')
    have hyq : ys[j / k]? = some ys[j / k] := List.getElem?_eq_getElem hq
    have hlen : (ys[j / k]).length = k := hyl _ (List.getElem_mem hq)
    have hr' : j % k < (ys[j / k]).length := by rw [hlen]; exact Nat.mod_lt _ hk
    have hu2 := List.getElem?_eq_getElem hr'
    have e1 : j / k * k + j % k = j := by rw [Nat.mul_comm]; exact Nat.div_add_mod j k
    have h5 := flatten_get ys hyl _ _ hyq _ _ hu2
    rw [e1, hj] at h5
    cases h5
    have := hcell _ _ hyq _ _ hu2
    rwa [e1] at this

section
variable {X : Cx} {ops : Array Oper} {l : List Oper} {kk : List Kt} {e : Env} {w : World} {N : Env → World → Prop} {d : Nat} {c : Option Bool} {ty : TypeId} {pos : String} {af : Array Edge} {g : Option (Nat × Bool)}

/-- likewise, of a function held as a value -/
theorem Step.callXC {f : FuncId} {x : Operand} {cap : List Value} {args : Array Operand} {ats : Array TypeId} {l : List Operand} {vs : List Value} {v : Value}
    (hg : guardE ops e ⟨some d, .call { callee := .value x, args := args, argTypes := ats }, ty, pos, af, g⟩ = some c)
    (hx : Op1 e c x (.func (.func f) #[] ⟨cap⟩)) (ha : args = ⟨l⟩) (hvs : OpL e c l vs) (hf : Callable X.P f) (hn : Nat.blt d X.n = true) (hc : cv c = true → Ret X.P f ⟨vs ++ cap⟩ w fun r w' => r = v ∧ Ext w w')
    (h : ∀ w', Ext w w' → N ((d, c, v) :: e) w') : Step X ops ⟨some d, .call { callee := .value x, args := args, argTypes := ats }, ty, pos, af, g⟩ e w N := by
  intro t K Q hft hK
  rw [guardE_wanted hft hg]
  cases hcv : cv c with
  | false =>
    rw [if_neg (by simp)]
    have := hK _ _ _ (h w (Ext.refl w)) (hft.put (by simpa [Nat.blt_eq] using hn) c v)
    simp only [gval, hcv] at this
    exact this
  | true =>
    rw [if_pos rfl]
    refine ⟨fun _ _ => trivial, ?_⟩
    rw [Oper.semAt_eq _ _ _ (fun _ hh => by cases hh)]
    have h1 := hvs.map (ds := X.ds) hft hcv
    subst ha
    have h2 : (Array.mk l).map (Act.mk t X.ds).eval = ⟨vs⟩ := by simp [h1]
    have h3 : (Act.mk t X.ds).eval x = .func (.func f) #[] ⟨cap⟩ := hx.val hft hcv
    have h4 : (⟨vs⟩ : Array Value) ++ ⟨cap⟩ = ⟨vs ++ cap⟩ := by simp
    have hr : (execOp (Act.mk t X.ds).eval ⟨some d, .call { callee := .value x, args := ⟨l⟩, argTypes := ats }, ty, pos, af, g⟩).run X.P w = .ok (.enter f ⟨vs ++ cap⟩) w := by
      simp only [execOp, resolve, h2, h3, Deferred.ofValue, Sem.run_bind, Sem.run_pure, Result.andThen_ok, invoke, Array.empty_append, h4, run_callFunc hf]
    show Oper.uponIn _ _ _ _ _ _ _ ((execOp (Act.mk t X.ds).eval _).run X.P w)
    rw [hr]
    refine ⟨fun h => by simp [Fence.wide] at h, callsW (Calls.mono (hc hcv) ?_)⟩
    rintro en w' ⟨r, rfl, rfl, hx⟩
    show K (Act.put _ (some d) r) w'
    have := hK _ _ _ (h w' hx) (hft.put (by simpa [Nat.blt_eq] using hn) c r)
    simp only [gval, hcv] at this
    exact this
end

section
variable {X : Cx} {ops : Array Oper} {e : Env} {w : World} {S : World → Prop} {N : Env → World → Prop} {lb : List (Oper × Bool)} {d : Nat} {c : Option Bool} {ty : TypeId} {pos : String} {af : Array Edge} {g : Option (Nat × Bool)}
end
end Go.Vg
end
section
namespace Go.Vg
open Go.RowKit

abbrev TT := List (List UInt8 × List UInt8)
def mpC (es : TT) : List (Value × Value) := es.map fun p => (S p.1, S p.2)
/-- block b is a map of texts by texts -/
def Mp (w : World) (b : Nat) (es : TT) : Prop := ∃ ms clock, w.heap[b]? = some (.map ⟨ms⟩ clock) ∧ ms.map (fun e => (e.key, e.val)) = mpC es
theorem Mp.lt {w : World} {b : Nat} {es : TT} (h : Mp w b es) : b < w.heap.size := by
  obtain ⟨ms, clock, h, _⟩ := h; exact (Array.getElem?_eq_some_iff.1 h).1
theorem Mp.to {w w' : World} {b : Nat} {es : TT} (h : Mp w b es) (hx : Ext w w') : Mp w' b es := by
  obtain ⟨ms, clock, h, h2⟩ := h
  exact ⟨ms, clock, by rw [hx.block b (Array.getElem?_eq_some_iff.1 h).1]; exact h, h2⟩
theorem Mp.wr {w w' : World} {b b' : Nat} {es : TT} (h : Mp w b es) (hw : Wr b' w w') (hne : b ≠ b') : Mp w' b es := by
  obtain ⟨ms, clock, h, h2⟩ := h
  exact ⟨ms, clock, by rw [hw.block b hne]; exact h, h2⟩

section
variable {X : Cx} {ops : Array Oper} {e : Env} {w : World} {N : Env → World → Prop} {d : Nat} {c : Option Bool} {ty : TypeId} {pos : String} {af : Array Edge} {g : Option (Nat × Bool)}
end
section
variable {X : Cx} {ops : Array Oper} {l : List Oper} {k : List Kt} {e : Env} {w : World} {d : Nat} {c : Option Bool} {ty : TypeId} {pos : String} {af : Array Edge} {g : Option (Nat × Bool)}
end
end Go.Vg
end
section
namespace Go.Vg
open Go.RowKit

/-- as Below, but that some block from B on may bear a mark -/
theorem Sli.same {w w' : World} {v : Value} {k : Nat} {xs : List (List Value)} (h : Sli w v k xs) (hc : ∀ a, w'.cell? a = w.cell? a) : Sli w' v k xs := by
  rcases h with h | ⟨a, cap, h1, h2, h3, h4, h5, h6⟩
  · exact .inl h
  · exact .inr ⟨a, cap, h1, h2, h3, h4, fun i x hx j u hu => by rw [hc]; exact h5 i x hx j u hu, h6⟩
section
variable {X : Cx} {ops : Array Oper} {l : List Oper} {k : List Kt} {e : Env} {w : World} {N : Env → World → Prop} {d : Nat} {c : Option Bool} {ty : TypeId} {pos : String} {af : Array Edge} {g : Option (Nat × Bool)}
end
end Go.Vg
end
section
namespace Go.Vg
open Go.RowKit

/-- a row whose first cells are bytes -/
theorem by_of {w : World} {b : Nat} {cs : List Value} {t cap : Nat} {fr : Nat × Nat} {l : List UInt8} (hb : w.heap[b]? = some (.cells ⟨cs⟩ t fr)) (h : cs.take l.length = l.map U) (hc : l.length ≤ cap) (hl : l.length ≤ 9223372036854775807) : By w (.slice (some ⟨b, 0, none⟩) l.length cap) l := by
  refine .inr ⟨⟨b, 0, none⟩, cap, by rw [bysC_len], rfl, by rw [bysC_len]; exact hc, bysC_k l, ?_, by rw [bysC_len]; exact hl⟩
  intro i x hx j u hu
  have hi : i < l.length := by
    have := (List.getElem?_eq_some_iff.1 hx).1
    rwa [bysC_len] at this
  rw [bysC_get hi] at hx
  cases hx
  have hj : j = 0 := by
    have := (List.getElem?_eq_some_iff.1 hu).1
    simp at this; exact this
  subst hj
  cases hu
  simp only [Addr.add_lit, Nat.zero_add, Nat.mul_one, Nat.add_zero]
  rw [Joins.cell_of_block hb i]
  have h2 : (cs.take l.length)[i]? = (l.map U)[i]? := by rw [h]
  rw [List.getElem?_take_of_lt hi, List.getElem?_map] at h2
  simpa [List.getD, hi] using h2
section
variable {X : Cx} {ops : Array Oper} {l : List Oper} {kk : List Kt} {e : Env} {w : World} {N : Env → World → Prop} {d : Nat} {c : Option Bool} {ty : TypeId} {pos : String} {af : Array Edge} {g : Option (Nat × Bool)}
end
end Go.Vg
end
section
namespace Go.Vg
open Go.RowKit

/-- a row made of a text: what lies behind the text's bytes may hold more -/
def Frz (w : World) (B : Nat) (v : Value) (et : Nat) (s : List UInt8) : Prop :=
  ∃ b G cs, v = .slice (some ⟨b, 0, none⟩) s.length G ∧ B ≤ b ∧ w.heap[b]? = some (.cells ⟨cs⟩ et (cs.length, cs.length + 1)) ∧ cs.take s.length = s.map U ∧ cs.length = G ∧ s.length ≤ G
/-- bytes of one's own -/
def Bwy (w : World) (B : Nat) (v : Value) (et : Nat) (s : List UInt8) : Prop := Frz w B v et s ∨ Owns w B v et 1 (bysC s)
theorem Frz.sli {w : World} {B et : Nat} {v : Value} {s : List UInt8} (h : Frz w B v et s) (hl : s.length ≤ 9223372036854775807) : By w v s := by
  obtain ⟨b, G, cs, rfl, _, hb, htk, _, hsG⟩ := h
  exact by_of hb htk hsG hl
theorem Bwy.sli {w : World} {B et : Nat} {v : Value} {s : List UInt8} (h : Bwy w B v et s) (hl : s.length ≤ 9223372036854775807) : By w v s := by
  rcases h with h | h
  · exact h.sli hl
  · exact h.sli
theorem Frz.to {w w' : World} {B et : Nat} {v : Value} {s : List UInt8} (h : Frz w B v et s) (hx : Ext w w') : Frz w' B v et s := by
  obtain ⟨b, G, cs, hv, hB, hb, hr⟩ := h
  exact ⟨b, G, cs, hv, hB, by rw [hx.block b (Array.getElem?_eq_some_iff.1 hb).1]; exact hb, hr⟩
theorem Bwy.to {w w' : World} {B et : Nat} {v : Value} {s : List UInt8} (h : Bwy w B v et s) (hx : Ext w w') : Bwy w' B v et s := by
  rcases h with h | h
  · exact .inl (h.to hx)
  · exact .inr (Owns.to h hx)
theorem Frz.mono {w : World} {B B' et : Nat} {v : Value} {s : List UInt8} (h : Frz w B v et s) (hB : B' ≤ B) : Frz w B' v et s := by
  obtain ⟨b, G, cs, hv, hb, hr⟩ := h
  exact ⟨b, G, cs, hv, Nat.le_trans hB hb, hr⟩
section
variable {X : Cx} {ops : Array Oper} {l : List Oper} {kk : List Kt} {e : Env} {w : World} {N : Env → World → Prop} {d : Nat} {c : Option Bool} {ty : TypeId} {pos : String} {af : Array Edge} {g : Option (Nat × Bool)}
end
end Go.Vg
end
section
namespace Go.Vg
open Go.RowKit

/-- a float of 64 bits -/
abbrev Fl (b : Nat) : Value := .float .f64 b
/-- how two floats stand to each other, tested -/
def fcmpB (op : BinOp) (x y : Nat) : Option Bool := match op with
  | .eql => some (FloatKind.f64.format.order x y == some .eq)
  | .neq => some (FloatKind.f64.format.order x y != some .eq)
  | .lss => some (FloatKind.f64.format.order x y == some .lt)
  | .leq => some (FloatKind.f64.format.order x y == some .lt || FloatKind.f64.format.order x y == some .eq)
  | .gtr => some (FloatKind.f64.format.order x y == some .gt)
  | .geq => some (FloatKind.f64.format.order x y == some .gt || FloatKind.f64.format.order x y == some .eq)
  | _ => none
section
variable {X : Cx} {ops : Array Oper} {l : List Oper} {k : List Kt} {e : Env} {w : World} {N : Env → World → Prop} {d : Nat} {c : Option Bool} {ty : TypeId} {pos : String} {af : Array Edge} {g : Option (Nat × Bool)}
theorem Step.flt {op : BinOp} {xt yt : TypeId} {x y : Operand} {a b r : Nat} (hg : guardE ops e ⟨some d, .binOp op xt x y yt, ty, pos, af, g⟩ = some c)
    (hx : Op1 e c x (Fl a)) (hy : Op1 e c y (Fl b)) (hr : floatBits op .f64 a b = some r) (hn : Nat.blt d X.n = true)
    (h : N ((d, c, Fl r) :: e) w) : Step X ops ⟨some d, .binOp op xt x y yt, ty, pos, af, g⟩ e w N :=
  Step.quiet rfl (by simpa [Nat.blt_eq] using hn) hg (fun _ hh => by cases hh) (fun t hf hc => by
    have hr' := run_float_arith (P := X.P) w op xt .f64 a b r hr
    have hq : (eqGuard op xt x y (Fl a) (Fl b)).run X.P w = .ok () w := by
      unfold floatBits at hr
      cases op <;> simp only at hr <;> first | (cases hr; done) | rfl
    simp only [execOp, hx.val hf hc, hy.val hf hc, Sem.run_bind, hq, Result.andThen_ok, hr', Sem.run_pure]) h
theorem Step.fcmp {op : BinOp} {xt yt : TypeId} {x y : Operand} {a b : Nat} {r : Bool} (hg : guardE ops e ⟨some d, .binOp op xt x y yt, ty, pos, af, g⟩ = some c)
    (hx : Op1 e c x (Fl a)) (hy : Op1 e c y (Fl b)) (hr : fcmpB op a b = some r) (hn : Nat.blt d X.n = true)
    (h : N ((d, c, .bool r) :: e) w) : Step X ops ⟨some d, .binOp op xt x y yt, ty, pos, af, g⟩ e w N :=
  Step.quiet rfl (by simpa [Nat.blt_eq] using hn) hg (fun _ hh => by cases hh) (fun t hf hc => by
    simp only [execOp, hx.val hf hc, hy.val hf hc]
    unfold fcmpB at hr
    cases op <;> simp only at hr <;> first | (cases hr; done) | (cases hr; simp [go_sem]; done) | (cases hr; simp [go_sem]; rfl)) h
theorem Step.i2f (T : Tb X.P) {x : Operand} {src dst : TypeId} {q : IntKind} {m : Int} {r : Nat} {sd : TypeDesc} (hg : guardE ops e ⟨some d, .convert src dst x, ty, pos, af, g⟩ = some c)
    (hx : Op1 e c x (.int q m)) (hs : T.ty src = some sd) (ht : T.ty dst = some (.float .f64)) (hr : floatOfInt .f64 m = r) (hn : Nat.blt d X.n = true)
    (h : N ((d, c, Fl r) :: e) w) : Step X ops ⟨some d, .convert src dst x, ty, pos, af, g⟩ e w N :=
  Step.quiet rfl (by simpa [Nat.blt_eq] using hn) hg (fun _ hh => by cases hh) (fun t hf hc => by
    have := run_convert_int_float (P := X.P) w src dst q .f64 m (by simp [T.ok _ _ hs]) (T.ok _ _ ht)
    rw [hr] at this
    simp only [execOp, hx.val hf hc, Sem.run_bind, this, Result.andThen_ok, Sem.run_pure]) h
theorem Step.f2i (T : Tb X.P) {x : Operand} {src dst : TypeId} {q : IntKind} {m : Int} {b : Nat} {sd : TypeDesc} (hg : guardE ops e ⟨some d, .convert src dst x, ty, pos, af, g⟩ = some c)
    (hx : Op1 e c x (Fl b)) (hs : T.ty src = some sd) (ht : T.ty dst = some (.int q)) (hr : floatToIntVal .f64 b q = some m) (hn : Nat.blt d X.n = true)
    (h : N ((d, c, .int q m) :: e) w) : Step X ops ⟨some d, .convert src dst x, ty, pos, af, g⟩ e w N :=
  Step.quiet rfl (by simpa [Nat.blt_eq] using hn) hg (fun _ hh => by cases hh) (fun t hf hc => by
    have := run_convert_float_int (P := X.P) w src dst .f64 q b m (by simp [T.ok _ _ hs]) (T.ok _ _ ht) hr
    simp only [execOp, hx.val hf hc, Sem.run_bind, this, Result.andThen_ok, Sem.run_pure]) h
/-- a call that the model answers by itself -/
theorem Step.ext {f : FuncId} {args : Array Operand} {ats : Array TypeId} {lo : List Operand} {vs : List Value} {v : Value}
    (hg : guardE ops e ⟨some d, .call { callee := .value (.func f), args := args, argTypes := ats }, ty, pos, af, g⟩ = some c)
    (ha : args = ⟨lo⟩) (hvs : OpL e c lo vs) (hr : (callFunc f ⟨vs⟩).run X.P w = .ok (.value v) w) (hn : Nat.blt d X.n = true)
    (h : N ((d, c, v) :: e) w) : Step X ops ⟨some d, .call { callee := .value (.func f), args := args, argTypes := ats }, ty, pos, af, g⟩ e w N :=
  Step.quiet rfl (by simpa [Nat.blt_eq] using hn) hg (fun _ hh => by cases hh) (fun t hf hc => by
    have := hvs.map (ds := X.ds) hf hc
    subst ha
    have h2 : (Array.mk lo).map (Act.mk t X.ds).eval = ⟨vs⟩ := by simp [this]
    simp only [execOp, resolve, h2, Act.eval, Deferred.ofValue, Sem.run_bind, Sem.run_pure, Result.andThen_ok, invoke, Array.empty_append, Array.append_empty, hr]) h
/-- the bits of a float, and back -/
theorem run_fbits {P : Program} {f : FuncId} {fn : Func} (hf : P.funcs[f]? = some fn) (hname : (fn.name == "runtime.NumGoroutine") = false) (hb : fn.body.isNone = true) (hn : Extern.findNext fn = none) (he : Extern.find fn = some Extern.MathFloatBits.float64bits) (b : Nat) (w : World) :
    (callFunc f #[Fl b]).run P w = .ok (.value (.int .u64 b)) w := by
  rw [run_callFunc_extern hf hname hb hn he]; rfl
theorem run_ofbits {P : Program} {f : FuncId} {fn : Func} (hf : P.funcs[f]? = some fn) (hname : (fn.name == "runtime.NumGoroutine") = false) (hb : fn.body.isNone = true) (hn : Extern.findNext fn = none) (he : Extern.find fn = some Extern.MathFloatBits.float64frombits) (b : Nat) (w : World) :
    (callFunc f #[.int .u64 b]).run P w = .ok (.value (Fl b)) w := by
  rw [run_callFunc_extern hf hname hb hn he]; rfl
/-- math.Floor's own -/
theorem run_afloor {P : Program} {f : FuncId} {fn : Func} {op : Array Value → Sem Value} (hf : P.funcs[f]? = some fn) (hname : (fn.name == "runtime.NumGoroutine") = false) (hb : fn.body.isNone = true) (hn : Extern.findNext fn = none) (he : Extern.find fn = some op) (b r : Nat) (w : World)
    (h : (op #[Fl b]).run P w = .ok (Fl r) w) : (callFunc f #[Fl b]).run P w = .ok (.value (Fl r)) w := by
  rw [run_callFunc_extern hf hname hb hn he, h]; rfl
end
end Go.Vg
end
section
open Go Go.Vg Go.RowKit Go.Proofs Go.Proofs.Ytbnckhfkkoncbaa
namespace Go.Proofs.Ytbnckhfkkoncbaa

theorem stale_ok (b : Nat) (w : World) : Ret Try.prog 65 ⟨[Fl b]⟩ w fun r w' => r = .bool (decide ((b : Int) = 9218868437227405314)) ∧ w' = w := by
  refine ret_of_G Try.func65 rfl Try.ntmps65 rfl ?_
  simp only [argEnv]
  refine rn ?_
  refine GL.cons (Step.ext rfl rfl (by repeat (first | exact OpL.nil | refine OpL.cons (Op1.of rfl (by first | exact fun _ => rfl | exact fun h => h | exact fun h => bL h | exact fun h => bL (bL h) | exact fun h => bL (bL (bL h)))) ?_)) (run_fbits Try.func45 (by kernel_rfl) (by kernel_rfl) (by kernel_rfl) (by kernel_rfl) b _) rfl ?_)
  refine rn ?_
  refine G.ret1 rfl rfl rfl rfl ?_
  exact ⟨rfl, rfl⟩
theorem seconds_ok (a b : Int) (f r : Nat) (w : World) (ha : 0 ≤ a ∧ a ≤ 1000000) (hb : 0 ≤ b ∧ b ≤ 1000000) (h1 : floatOfInt .f64 (b - a) = f) (h2 : floatBits .quo .f64 f 4652007308841189376 = some r) : Ret Try.prog 86 ⟨[.int .i64 a, .int .i64 b]⟩ w fun v w' => v = Fl r ∧ w' = w := by
  refine ret_of_G Try.func86 rfl Try.ntmps86 rfl ?_
  simp only [argEnv]
  refine rn ?_
  refine sAd tb ?_
  refine GL.cons (Step.i2f tb rfl (Op1.of rfl (by first | exact fun _ => rfl | exact fun h => h | exact fun h => bL h | exact fun h => bL (bL h) | exact fun h => bL (bL (bL h)))) rfl rfl h1 rfl ?_)
  refine GL.cons (Step.flt rfl (Op1.of rfl (by first | exact fun _ => rfl | exact fun h => h | exact fun h => bL h | exact fun h => bL (bL h) | exact fun h => bL (bL (bL h)))) (Op1.of rfl (by first | exact fun _ => rfl | exact fun h => h | exact fun h => bL h | exact fun h => bL (bL h) | exact fun h => bL (bL (bL h)))) h2 rfl ?_)
  refine rn ?_
  refine G.ret1 rfl rfl rfl rfl ?_
  exact ⟨rfl, rfl⟩
abbrev Smp := Int × Nat
def smpC (x : Smp) : List Value := [.int .i64 x.1, Fl x.2]
abbrev Smps (w : World) (v : Value) (xs : List Smp) : Prop := Sli w v 2 (xs.map smpC)
abbrev SmpO (w : World) (B : Nat) (v : Value) (xs : List Smp) : Prop := Owns w B v 26 2 (xs.map smpC)
theorem smp1 (xs : List Smp) : ∀ y ∈ xs.map smpC, ∀ c ∈ y, c.oneCell' = true := by
  intro y hy c hc
  obtain ⟨x, _, rfl⟩ := List.mem_map.1 hy
  simp only [smpC, List.mem_cons, List.not_mem_nil, or_false] at hc
  rcases hc with rfl | rfl <;> rfl
theorem smpLen (xs : List Smp) : ∀ y ∈ xs.map smpC, y.length = 2 := by
  intro y hy
  obtain ⟨x, _, rfl⟩ := List.mem_map.1 hy
  rfl
def freshB (a b : Int) (x : Smp) : Bool := decide (a < x.1) && decide (x.1 ≤ b) && !decide ((x.2 : Int) = 9218868437227405314)
theorem fresh_ok (v : Value) (xs : List Smp) (a b : Int) (w : World) (hv : Smps w v xs) (hl : xs.length ≤ 1000) :
    Ret Try.prog 37 ⟨[v, .int .i64 a, .int .i64 b]⟩ w fun r w' => SmpO w' w.heap.size r (xs.filter (freshB a b)) ∧ Ext w w' := by
  refine ret_of_G Try.func37 rfl Try.ntmps37 rfl ?_
  simp only [argEnv]
  refine rn ?_
  rw [List.length_map]
  refine rn ?_
  refine (G.loop (fun x : Nat × Value => [(1, none, .int .i64 a), (2, none, .int .i64 b), (7, none, x.2), (10, none, v), (11, none, .int .i64 xs.length), (12, none, .int .i64 x.1)]) (fun x W => Ext w W ∧ x.1 ≤ xs.length ∧ SmpO W w.heap.size x.2 ((xs.take x.1).filter (freshB a b))) (fun x => xs.length - x.1) (0, .slice none 0 0) (by repeat (first | exact Sub.nil _ | refine Sub.cons rfl ?_)) ⟨Ext.refl _, by simp, Owns.nil _ _ _ _⟩ ?_)
  rintro ⟨k, s⟩ W ⟨hx, hk, hs⟩
  simp only at hk hs ⊢
  have hvW := hv.to hx
  refine rn ?_
  first | refine G.condD rfl (fun hc => ?_) (fun hc => ?_) | refine G.condN rfl (fun hc => ?_) (fun hc => ?_) | refine G.cond rfl (fun hc => ?_) (fun hc => ?_)
  · have hlt : k < xs.length := by omega
    have hget : (xs.map smpC)[k]? = some (smpC xs[k]) := by simp [hlt]
    have htk : xs.take (k + 1) = xs.take k ++ [xs[k]] := List.take_succ_eq_append_getElem hlt
    obtain ⟨x, hxk⟩ : ∃ x, xs[k] = x := ⟨_, rfl⟩
    rw [hxk] at hget htk
    have hfl : ((xs.take k).filter (freshB a b)).length ≤ 1000 := by
      have := List.length_filter_le (freshB a b) (xs.take k)
      rw [List.length_take] at this; omega
    try (first | refine gl tb ?_ | refine gg tb ?_ | refine ll tb ?_ | refine lg tb ?_); repeat ((first | refine G.condT rfl ?_ | refine G.condF rfl ?_ | refine sFa tb ?_ | refine sLd tb ?_ | refine sLa tb ?_ | refine sLen tb ?_ | refine sFd tb ?_ | refine sBd tb ?_ | refine sIa tb k ?_); try (first | refine gl tb ?_ | refine gg tb ?_ | refine ll tb ?_ | refine lg tb ?_))
    refine sAl tb ?_
    intro w3 hb3 hs3 hx3
    refine sSt tb ?_ (vs := smpC x) (hv := rfl) (hb := hb3) (h1 := by simp [Value.oneCell', smpC])
    intro w4 hb4 hw4
    have hx24 : Ext W w4 := Below.wr hx3 hw4 (Nat.le_refl _)
    have hx4 := hx.trans hx24
    refine rn ?_
    refine sCallx c65 (fun hc => Ret.mono (stale_ok x.2 w4) fun _ _ h => ⟨h.1, by rw [h.2]; exact Ext.refl _⟩) ?_
    intro w5 hx5
    have hb5 := hb4.to hx5
    have hx45 := hx24.trans hx5
    have hx05 := hx.trans hx45
    have hfs : (xs.take (k + 1)).filter (freshB a b) = if freshB a b x = true then (xs.take k).filter (freshB a b) ++ [x] else (xs.take k).filter (freshB a b) := by
      rw [htk, List.filter_append]
      by_cases h : freshB a b x = true
      · rw [if_pos h, List.filter_cons, if_pos h]; rfl
      · rw [if_neg h, List.filter_cons, if_neg h]; simp
    refine rn ?_
    refine G.join (fun u : Value => [(1, none, .int .i64 a), (2, none, .int .i64 b), (7, none, u), (10, none, v), (11, none, .int .i64 xs.length), (12, none, .int .i64 k)]) (fun u W2 => Ext w W2 ∧ SmpO W2 w.heap.size u ((xs.take (k + 1)).filter (freshB a b))) ?_ ?_
    · rintro u W2 ⟨hx2, hu⟩
      refine rn ?_
      refine sAd tb ?_
      refine rn ?_
      exact G.lp (x := (k, s)) (k + 1, u) (by repeat (first | exact Sub.nil _ | refine Sub.cons rfl ?_)) ⟨hx2, by simp only; omega, hu⟩ (by simp only; omega)
    · first | refine G.condD rfl (fun hc => ?_) (fun hc => ?_) | refine G.condN rfl (fun hc => ?_) (fun hc => ?_) | refine G.cond rfl (fun hc => ?_) (fun hc => ?_)
      · rw [if_pos (show freshB a b x = true from hc)] at hfs
        refine rn ?_
        refine sBs' tb [smpC x] ?_ (hkl := smpLen [x])
        intro v6 w6 ho6 hs6 hx6
        have hx06 := hx05.trans hx6
        refine sApp tb (hs.to (hx45.trans hx6)) ho6.sli ?_ (h1 := smp1 [x]) (hB := hx06.size)
        intro v7 w7 ho7 hg7
        refine rn ?_
        exact G.met v7 (by repeat (first | exact Sub.nil _ | refine Sub.cons rfl ?_)) ⟨hg7.below _ hx06, by rw [hfs]; unfold SmpO; rw [List.map_append]; exact ho7⟩
      · rw [if_neg (show ¬ freshB a b x = true by simpa [freshB] using hc)] at hfs
        refine rn ?_
        exact G.met s (by repeat (first | exact Sub.nil _ | refine Sub.cons rfl ?_)) ⟨hx05, by rw [hfs]; exact hs.to hx45⟩
  · have hke : k = xs.length := by omega
    rw [hke, List.take_length] at hs
    refine rn ?_
    refine G.ret1 rfl rfl rfl rfl ?_
    exact ⟨hs, hx⟩
end Go.Proofs.Ytbnckhfkkoncbaa
end
section
open Go Go.Vg Go.RowKit Go.Proofs Go.Proofs.Ytbnckhfkkoncbaa
namespace Go.Proofs.Ytbnckhfkkoncbaa

def incS : List UInt8 := [105, 110, 99, 114, 101, 97, 115, 101]
def twoS : List Smp := [(10000, 0), (20000, 4621819117588971520)]
set_option maxHeartbeats 4000000 in
theorem grown_ok (v : Value) (w : World) (hv : Smps w v twoS) :
    Ret Try.prog 42 ⟨[S incS, v, .int .i64 0, .int .i64 30000]⟩ w fun r w' => r = .tuple ⟨[Fl 4626322717216342016, .bool true]⟩ ∧ Ext w w' := by
  have hg0 : (twoS.map smpC)[0]? = some (smpC (10000, 0)) := rfl
  have hg1 : (twoS.map smpC)[1]? = some (smpC (20000, 4621819117588971520)) := rfl
  have hlen : (twoS.map smpC).length = 2 := rfl
  refine ret_of_G Try.func42 rfl Try.ntmps42 rfl ?_
  simp only [argEnv]
  refine rn ?_
  refine G.regionG (Ext w) mixed (Ext.drew w) ?_
  refine GD.steps ([(0, true), (1, true), (2, true), (3, true), (4, true), (5, true), (6, true), (7, true)]) (by kernel_rfl) (by kernel_rfl) rfl ?_
  refine rd ?_
  refine dIa tb 0 ?_
  refine rd ?_
  refine dAd tb ?_
  refine dIa tb 1 ?_
  refine rd ?_
  refine GM.nil ?_
  refine GD.join [0, 1, 2, 3, 4, 5, 6, 7, 8, 9] (fun x : Nat × Nat => [(0, none, S incS), (1, none, v), (2, none, .int .i64 0), (3, none, .int .i64 30000), (10, none, .int .i64 2), (31, none, .agg ⟨smpC (10000, 0)⟩), (36, none, .agg ⟨smpC (20000, 4621819117588971520)⟩), (11, none, ptr x.1), (12, none, ptr x.2)]) (fun x w' => Ext w w' ∧ w.heap.size ≤ x.1 ∧ w.heap.size ≤ x.2 ∧ x.1 ≠ x.2 ∧ Bx w' x.1 [.int .i64 0, Fl 0] ∧ Bx w' x.2 [.int .i64 0, Fl 0]) ?_ fun meet => ?_
  rotate_left
  · refine GD.two (8) (9) (by kernel_rfl) (by kernel_rfl) rfl rfl ?_ ?_
    · refine (Step.alloc tb rfl rfl rfl rfl ?_)
      intro w1 hb1 hs1 hx1
      have hx1 := (Ext.drew w).trans hx1
      refine ⟨hx1, ?_⟩
      refine GD.steps ([(9, false)]) (by kernel_rfl) (by kernel_rfl) rfl ?_
      refine GM.eff (Step.alloc tb rfl rfl rfl rfl ?_)
      intro w2 hb2 hs2 hx2
      have hz2 := hx1.size
      have hx02 := hx1.trans hx2
      refine ⟨hx02, ?_⟩
      refine GM.nil ?_
      exact meet (_, _) _ _ _ rfl rfl (by repeat (first | exact Sub.nil _ | refine Sub.cons rfl ?_)) ⟨hx02, by simp only; exact (Ext.drew w).size, by simp only; exact hz2, Nat.ne_of_lt (show w.drew.heap.size < w1.heap.size by omega), hb1.to hx2, hb2⟩
    · refine (Step.alloc tb rfl rfl rfl rfl ?_)
      intro w1 hb1 hs1 hx1
      have hx1 := (Ext.drew w).trans hx1
      refine ⟨hx1, ?_⟩
      refine GD.steps ([(8, false)]) (by kernel_rfl) (by kernel_rfl) rfl ?_
      refine GM.eff (Step.alloc tb rfl rfl rfl rfl ?_)
      intro w2 hb2 hs2 hx2
      have hz2 := hx1.size
      have hx02 := hx1.trans hx2
      refine ⟨hx02, ?_⟩
      refine GM.nil ?_
      exact meet (_, _) _ _ _ rfl rfl (by repeat (first | exact Sub.nil _ | refine Sub.cons rfl ?_)) ⟨hx02, by simp only; exact hz2, by simp only; exact (Ext.drew w).size, Nat.ne_of_gt (show w.drew.heap.size < w1.heap.size by omega), hb2, hb1.to hx2⟩
  rintro ⟨b1, b2⟩ w1 ⟨hx1, hz1, hz2, hne, hb1, hb2⟩
  simp only at hz1 hz2 hne hb1 hb2 ⊢
  refine GD.steps ([(10, false), (11, false)]) (by kernel_rfl) (by kernel_rfl) rfl ?_
  refine GM.eff (Step.store0 tb rfl (Op1.of rfl (by first | exact fun _ => rfl | exact fun h => h | exact fun h => bL h | exact fun h => bL (bL h) | exact fun h => bL (bL (bL h)))) (Op1.of rfl (by first | exact fun _ => rfl | exact fun h => h | exact fun h => bL h | exact fun h => bL (bL h) | exact fun h => bL (bL (bL h)))) rfl (rfl) rfl (by simp [Value.oneCell', smpC]) hb1 rfl ?_)
  intro w2 hb1 hw1
  have hx2 : Ext w w2 := Below.wr hx1 hw1 hz1
  have hb2 := hb2.wr hw1 hne.symm
  refine ⟨hx2, ?_⟩
  refine GM.eff (Step.store0 tb rfl (Op1.of rfl (by first | exact fun _ => rfl | exact fun h => h | exact fun h => bL h | exact fun h => bL (bL h) | exact fun h => bL (bL (bL h)))) (Op1.of rfl (by first | exact fun _ => rfl | exact fun h => h | exact fun h => bL h | exact fun h => bL (bL h) | exact fun h => bL (bL (bL h)))) rfl (rfl) rfl (by simp [Value.oneCell', smpC]) hb2 rfl ?_)
  intro w3 hb2 hw2
  have hx3 : Ext w w3 := Below.wr hx2 hw2 hz2
  have hb1 := hb1.wr hw2 hne
  refine ⟨hx3, ?_⟩
  refine GM.nil ?_
  refine GD.done (by kernel_rfl) ?_
  clear hw1 hw2 hx1 hx2
  have hb1 : Bx w3 b1 [.int .i64 10000, Fl 0] := hb1
  have hb2 : Bx w3 b2 [.int .i64 20000, Fl 4621819117588971520] := hb2
  have hnd : (!decide (incS = [100, 101, 108, 116, 97])) = true := by decide
  refine rn ?_
  rw [hnd]
  refine rn ?_
  refine GL.cons (Step.flt (r := 4621819117588971520) rfl (Op1.of rfl (by first | exact fun _ => rfl | exact fun h => h | exact fun h => bL h | exact fun h => bL (bL h) | exact fun h => bL (bL (bL h)))) (Op1.of rfl (by first | exact fun _ => rfl | exact fun h => h | exact fun h => bL h | exact fun h => bL (bL h) | exact fun h => bL (bL (bL h)))) (by kernel_rfl) rfl ?_)
  refine rn ?_
  refine (G.loop (fun i : Nat => [(0, none, S incS), (1, none, v), (2, none, .int .i64 0), (3, none, .int .i64 30000), (10, none, .int .i64 2), (11, none, ptr b1), (12, none, ptr b2), (13, none, .bool true), (14, none, Fl 4621819117588971520), (15, none, .int .i64 i)]) (fun i W => Ext w3 W ∧ (i = 1 ∨ i = 2)) (fun i => 2 - i) 1 (by repeat (first | exact Sub.nil _ | refine Sub.cons rfl ?_)) ⟨Ext.refl _, .inl rfl⟩ ?_)
  rintro i W ⟨hx, rfl | rfl⟩
  · have hvW := hv.to (hx3.trans hx)
    refine rn ?_
    refine G.regionM [(0, true), (1, true), (2, true), (3, true), (4, true), (5, true), (6, true), (7, true), (8, true), (9, true), (10, true), (11, true)] (Ext W) (by kernel_rfl) (by kernel_rfl) rfl mixed (Ext.drew W) rfl ?_
    try (refine mm tb ?_); repeat ((first | refine dFa tb ?_ | refine dLd tb ?_ | refine dLa tb ?_ | refine dLen tb ?_ | refine dFd tb ?_ | refine dIa tb 1 ?_); try (refine mm tb ?_))
    refine dAd tb ?_
    try (refine mm tb ?_); repeat ((first | refine dFa tb ?_ | refine dLd tb ?_ | refine dLa tb ?_ | refine dLen tb ?_ | refine dFd tb ?_ | refine dIa tb 0 ?_); try (refine mm tb ?_))
    refine GM.read (fun w' hS => Step.fcmp (r := false) rfl (Op1.of rfl (by first | exact fun _ => rfl | exact fun h => h | exact fun h => bL h | exact fun h => bL (bL h) | exact fun h => bL (bL (bL h)))) (Op1.of rfl (by first | exact fun _ => rfl | exact fun h => h | exact fun h => bL h | exact fun h => bL (bL h) | exact fun h => bL (bL (bL h)))) (by kernel_rfl) rfl ⟨rfl, rfl⟩) rfl rfl ?_
    refine rd ?_
    refine GM.nil ?_
    refine rn ?_
    refine sAd tb ?_
    refine rn ?_
    exact G.lp (x := (1 : Nat)) 2 (by repeat (first | exact Sub.nil _ | refine Sub.cons rfl ?_)) ⟨hx.drew', .inr rfl⟩ (by omega)
  · have hb1 := hb1.to hx
    have hb2 := hb2.to hx
    have hx0 := hx3.trans hx
    refine rn ?_
    refine sCall c86 (seconds_ok 10000 20000 4666723172467343360 4621819117588971520 W (by omega) (by omega) (by kernel_rfl) (by kernel_rfl)) ?_
    rintro _ w4 ⟨rfl, hw4⟩
    obtain rfl : W = w4 := hw4.symm
    refine rn ?_
    refine G.regionM [(0, true), (1, true), (2, true), (3, true), (4, true), (5, true), (6, true), (7, true), (8, true), (9, true)] (Ext W) (by kernel_rfl) (by kernel_rfl) rfl mixed (Ext.drew W) rfl ?_
    refine rd ?_
    refine dCallq c86 (fun w' _ _ => seconds_ok 0 10000 4666723172467343360 4621819117588971520 w' (by omega) (by omega) (by kernel_rfl) (by kernel_rfl)) ?_
    refine rd ?_
    refine dCallq c86 (fun w' _ _ => seconds_ok 20000 30000 4666723172467343360 4621819117588971520 w' (by omega) (by omega) (by kernel_rfl) (by kernel_rfl)) ?_
    refine rd ?_
    refine GM.nil ?_
    have hx4 := hx0.drew'
    have hb1 := hb1.drew
    have hb2 := hb2.drew
    generalize W.drew = W4 at hx4 hb1 hb2 ⊢
    refine rn ?_
    refine sAd tb ?_
    refine GL.cons (Step.i2f (r := 4607182418800017408) tb rfl (Op1.of rfl (by first | exact fun _ => rfl | exact fun h => h | exact fun h => bL h | exact fun h => bL (bL h) | exact fun h => bL (bL (bL h)))) rfl rfl (by kernel_rfl) rfl ?_)
    refine GL.cons (Step.flt (r := 4621819117588971520) rfl (Op1.of rfl (by first | exact fun _ => rfl | exact fun h => h | exact fun h => bL h | exact fun h => bL (bL h) | exact fun h => bL (bL (bL h)))) (Op1.of rfl (by first | exact fun _ => rfl | exact fun h => h | exact fun h => bL h | exact fun h => bL (bL h) | exact fun h => bL (bL (bL h)))) (by kernel_rfl) rfl ?_)
    refine rn ?_
    refine GL.cons (Step.fcmp (r := true) rfl (Op1.of rfl (by first | exact fun _ => rfl | exact fun h => h | exact fun h => bL h | exact fun h => bL (bL h) | exact fun h => bL (bL (bL h)))) (Op1.of rfl (by first | exact fun _ => rfl | exact fun h => h | exact fun h => bL h | exact fun h => bL (bL h) | exact fun h => bL (bL (bL h)))) (by kernel_rfl) rfl ?_)
    refine rn ?_
    refine GL.cons (Step.fcmp (r := true) rfl (Op1.of rfl (by first | exact fun _ => rfl | exact fun h => h | exact fun h => bL h | exact fun h => bL (bL h) | exact fun h => bL (bL (bL h)))) (Op1.of rfl (by first | exact fun _ => rfl | exact fun h => h | exact fun h => bL h | exact fun h => bL (bL h) | exact fun h => bL (bL (bL h)))) (by kernel_rfl) rfl ?_)
    refine rn ?_
    refine GL.cons (Step.flt (r := 0) rfl (Op1.of rfl (by first | exact fun _ => rfl | exact fun h => h | exact fun h => bL h | exact fun h => bL (bL h) | exact fun h => bL (bL (bL h)))) (Op1.of rfl (by first | exact fun _ => rfl | exact fun h => h | exact fun h => bL h | exact fun h => bL (bL h) | exact fun h => bL (bL (bL h)))) (by kernel_rfl) rfl ?_)
    refine GL.cons (Step.flt (r := 0) rfl (Op1.of rfl (by first | exact fun _ => rfl | exact fun h => h | exact fun h => bL h | exact fun h => bL (bL h) | exact fun h => bL (bL (bL h)))) (Op1.of rfl (by first | exact fun _ => rfl | exact fun h => h | exact fun h => bL h | exact fun h => bL (bL h) | exact fun h => bL (bL (bL h)))) (by kernel_rfl) rfl ?_)
    refine rn ?_
    refine GL.cons (Step.fcmp (r := true) rfl (Op1.of rfl (by first | exact fun _ => rfl | exact fun h => h | exact fun h => bL h | exact fun h => bL (bL h) | exact fun h => bL (bL (bL h)))) (Op1.of rfl (by first | exact fun _ => rfl | exact fun h => h | exact fun h => bL h | exact fun h => bL (bL h) | exact fun h => bL (bL (bL h)))) (by kernel_rfl) rfl ?_)
    refine rn ?_
    refine (G.loop (fun x : Nat × Nat => [(0, none, S incS), (2, none, .int .i64 0), (3, none, .int .i64 30000), (14, none, Fl 4621819117588971520), (16, none, Fl 4621819117588971520), (19, none, Fl 4621819117588971520), (21, none, Fl x.2), (113, none, .agg ⟨[Fl 0, Fl 4621819117588971520]⟩), (114, none, .int .i64 x.1)]) (fun x W => Ext w W ∧ (x = (0, 4621819117588971520) ∨ x = (1, 4621819117588971520) ∨ x = (2, 4626322717216342016))) (fun x => 2 - x.1) (0, 4621819117588971520) (by repeat (first | exact Sub.nil _ | refine Sub.cons rfl ?_)) ⟨hx4, .inl rfl⟩ ?_)
    rintro x W5 ⟨hx5, rfl | rfl | rfl⟩
    · refine rn ?_
      refine sIx tb (n := 2) 0 (fun _ => ⟨rfl, by decide, rfl⟩) ?_
      refine rn ?_
      refine GL.cons (Step.flt (r := 4622382067542392832) rfl (Op1.of rfl (by first | exact fun _ => rfl | exact fun h => h | exact fun h => bL h | exact fun h => bL (bL h) | exact fun h => bL (bL (bL h)))) (Op1.of rfl (by first | exact fun _ => rfl | exact fun h => h | exact fun h => bL h | exact fun h => bL (bL h) | exact fun h => bL (bL (bL h)))) (by kernel_rfl) rfl ?_)
      refine GL.cons (Step.fcmp (r := true) rfl (Op1.of rfl (by first | exact fun _ => rfl | exact fun h => h | exact fun h => bL h | exact fun h => bL (bL h) | exact fun h => bL (bL (bL h)))) (Op1.of rfl (by first | exact fun _ => rfl | exact fun h => h | exact fun h => bL h | exact fun h => bL (bL h) | exact fun h => bL (bL (bL h)))) (by kernel_rfl) rfl ?_)
      refine rn ?_
      refine GL.cons (Step.flt (r := 4621819117588971520) rfl (Op1.of rfl (by first | exact fun _ => rfl | exact fun h => h | exact fun h => bL h | exact fun h => bL (bL h) | exact fun h => bL (bL (bL h)))) (Op1.of rfl (by first | exact fun _ => rfl | exact fun h => h | exact fun h => bL h | exact fun h => bL (bL h) | exact fun h => bL (bL (bL h)))) (by kernel_rfl) rfl ?_)
      refine rn ?_
      refine sAd tb ?_
      refine rn ?_
      exact G.lp (x := (0, 4621819117588971520)) (1, 4621819117588971520) (by repeat (first | exact Sub.nil _ | refine Sub.cons rfl ?_)) ⟨hx5, .inr (.inl rfl)⟩ (by simp only; omega)
    · refine rn ?_
      refine sIx tb (n := 2) 1 (fun _ => ⟨rfl, by decide, rfl⟩) ?_
      refine rn ?_
      refine GL.cons (Step.flt (r := 4622382067542392832) rfl (Op1.of rfl (by first | exact fun _ => rfl | exact fun h => h | exact fun h => bL h | exact fun h => bL (bL h) | exact fun h => bL (bL (bL h)))) (Op1.of rfl (by first | exact fun _ => rfl | exact fun h => h | exact fun h => bL h | exact fun h => bL (bL h) | exact fun h => bL (bL (bL h)))) (by kernel_rfl) rfl ?_)
      refine GL.cons (Step.fcmp (r := true) rfl (Op1.of rfl (by first | exact fun _ => rfl | exact fun h => h | exact fun h => bL h | exact fun h => bL (bL h) | exact fun h => bL (bL (bL h)))) (Op1.of rfl (by first | exact fun _ => rfl | exact fun h => h | exact fun h => bL h | exact fun h => bL (bL h) | exact fun h => bL (bL (bL h)))) (by kernel_rfl) rfl ?_)
      refine rn ?_
      refine GL.cons (Step.flt (r := 4626322717216342016) rfl (Op1.of rfl (by first | exact fun _ => rfl | exact fun h => h | exact fun h => bL h | exact fun h => bL (bL h) | exact fun h => bL (bL (bL h)))) (Op1.of rfl (by first | exact fun _ => rfl | exact fun h => h | exact fun h => bL h | exact fun h => bL (bL h) | exact fun h => bL (bL (bL h)))) (by kernel_rfl) rfl ?_)
      refine rn ?_
      refine sAd tb ?_
      refine rn ?_
      exact G.lp (x := (1, 4621819117588971520)) (2, 4626322717216342016) (by repeat (first | exact Sub.nil _ | refine Sub.cons rfl ?_)) ⟨hx5, .inr (.inr rfl)⟩ (by simp only; omega)
    · have hnr : decide (incS = [114, 97, 116, 101]) = false := by decide
      refine rn ?_
      refine GL.cons (Step.flt (r := 4611686018427387904) rfl (Op1.of rfl (by first | exact fun _ => rfl | exact fun h => h | exact fun h => bL h | exact fun h => bL (bL h) | exact fun h => bL (bL (bL h)))) (Op1.of rfl (by first | exact fun _ => rfl | exact fun h => h | exact fun h => bL h | exact fun h => bL (bL h) | exact fun h => bL (bL (bL h)))) (by kernel_rfl) rfl ?_)
      refine rn ?_
      rw [hnr]
      refine rn ?_
      refine GL.cons (Step.flt (r := 4626322717216342016) rfl (Op1.of rfl (by first | exact fun _ => rfl | exact fun h => h | exact fun h => bL h | exact fun h => bL (bL h) | exact fun h => bL (bL (bL h)))) (Op1.of rfl (by first | exact fun _ => rfl | exact fun h => h | exact fun h => bL h | exact fun h => bL (bL h) | exact fun h => bL (bL (bL h)))) (by kernel_rfl) rfl ?_)
      refine rn ?_
      refine G.ret2 rfl rfl rfl rfl rfl ?_
      exact ⟨rfl, hx5⟩
end Go.Proofs.Ytbnckhfkkoncbaa
end
section
namespace Go.Vg
open Go.RowKit
theorem results_four {fn : Func} {s1 s2 s3 s4 : Tmp} (h : fn.results = #[.tmp s1, .tmp s2, .tmp s3, .tmp s4]) (tmps : Array Value) (P : Program) (w : World) :
    (results fn tmps).run P w = .ok (.tuple #[tmps.getD s1 undef, tmps.getD s2 undef, tmps.getD s3 undef, tmps.getD s4 undef]) w := by
  simp [results, h]
theorem G.ret4 {X : Cx} {k : List Kt} {e : Env} {w : World} {P : Program} {fn : Func} {R : Value → World → Prop} (hX : X.fin = retFin P fn R) (hd : X.ds = []) {s1 s2 s3 s4 : Nat} {v1 v2 v3 v4 : Value}
    (hr : fn.results = #[.tmp s1, .tmp s2, .tmp s3, .tmp s4]) (h1 : look e s1 = some (none, v1)) (h2 : look e s2 = some (none, v2)) (h3 : look e s3 = some (none, v3)) (h4 : look e s4 = some (none, v4)) (h : R (.tuple ⟨[v1, v2, v3, v4]⟩) w) : G X (.code .ret :: k) e w := by
  refine G.ret fun t ht => ?_
  rw [hX, hd]
  refine ⟨rfl, _, ?_, _, rfl, h⟩
  rw [results_four hr, (ht.get _ _ _ h1).2, (ht.get _ _ _ h2).2, (ht.get _ _ _ h3).2, (ht.get _ _ _ h4).2]
  rfl
end Go.Vg
end
section
open Go Go.Vg Go.RowKit Go.Proofs Go.Proofs.Ytbnckhfkkoncbaa
namespace Go.Proofs.Ytbnckhfkkoncbaa

theorem fresh_two : twoS.filter (freshB 0 30000) = twoS := by decide
set_option maxHeartbeats 2000000 in
theorem over_ok (v : Value) (w : World) (hv : Smps w v twoS) :
    Ret Try.prog 10 ⟨[S [105, 110, 99, 114, 101, 97, 115, 101], v, Fl 0, .int .i64 0, .int .i64 30000]⟩ w fun r w' => r = .tuple ⟨[Fl 4626322717216342016, .bool true]⟩ ∧ Ext w w' := by
  refine ret_of_G Try.func10 rfl Try.ntmps10 rfl ?_
  simp only [argEnv]
  refine rn ?_
  refine sCall c37 (fresh_ok v twoS 0 30000 w hv (by decide)) ?_
  rintro u w1 ⟨ho, hx1⟩
  rw [fresh_two] at ho
  have hu : Smps w1 u twoS := ho.sli
  have hlen : (twoS.map smpC).length = 2 := rfl
  refine rn ?_
  refine sCall c42 (grown_ok u w1 hu) ?_
  rintro _ w2 ⟨rfl, hx2⟩
  refine rn ?_
  refine G.ret2 rfl rfl rfl rfl rfl ?_
  exact ⟨rfl, hx1.trans hx2⟩

/-! ### dates -/
theorem floored_ok (a b : Int) (w : World) (hb : 0 < b) (hb2 : b ≤ 1000000000) (ha : -1000000000000000 ≤ a) (ha2 : a ≤ 1000000000000000) :
    Ret Try.prog 66 ⟨[.int .i64 a, .int .i64 b]⟩ w fun r w' => r = .tuple ⟨[.int .i64 (a / b), .int .i64 (a % b)]⟩ ∧ Ext w w' := by
  have h1 := Int.tmod_eq_emod (a := a) (b := b)
  have h2 := Int.emod_nonneg a (b := b) (by omega)
  have h3 := Int.emod_lt_of_pos a (b := b) (by omega)
  have h4 := Int.mul_ediv_add_emod a b
  have h5 := Int.mul_tdiv_add_tmod a b
  obtain ⟨q, hq⟩ : ∃ q, a.tdiv b = q := ⟨_, rfl⟩
  obtain ⟨r, hr⟩ : ∃ r, a.tmod b = r := ⟨_, rfl⟩
  obtain ⟨Q, hQ⟩ : ∃ Q, a / b = Q := ⟨_, rfl⟩
  obtain ⟨R, hR⟩ : ∃ R, a % b = R := ⟨_, rfl⟩
  rw [hq, hr] at h5
  rw [hr] at h1
  rw [hQ, hR] at h4
  rw [hR] at h1 h2 h3
  rw [hQ, hR]
  have hqb : q.natAbs ≤ a.natAbs := by rw [← hq]; exact Int.natAbs_tdiv_le_natAbs a b
  have hcase : (r < 0 ∧ q - 1 = Q ∧ r + b = R) ∨ (0 ≤ r ∧ q = Q ∧ r = R) := by
    have hbb : b.natAbs = b := by omega
    rcases Int.lt_or_le r 0 with h | h
    · refine .inl ⟨h, ?_, ?_⟩
      · have hRr : R = r + b := by split at h1 <;> omega
        have : b * q = b * (Q + 1) := by rw [Int.mul_add]; omega
        have := Int.eq_of_mul_eq_mul_left (by omega) this
        omega
      · split at h1 <;> omega
    · have hRr : r = R := by split at h1 <;> omega
      refine .inr ⟨h, ?_, hRr⟩
      have : b * q = b * Q := by omega
      exact Int.eq_of_mul_eq_mul_left (by omega) this
  refine ret_of_G Try.func66 rfl Try.ntmps66 rfl ?_
  simp only [argEnv]
  refine rn ?_
  refine G.regionM [(0, true), (1, true), (2, true), (3, true), (4, true), (5, true), (6, true), (7, true)] (Ext w) (by kernel_rfl) (by kernel_rfl) rfl mixed (Ext.drew w) rfl ?_
  refine rd ?_
  refine GM.read (fun w' hS => Step.quo (r := q) rfl (Op1.of rfl (by first | exact fun _ => rfl | exact fun h => h | exact fun h => bL h | exact fun h => bL (bL h) | exact fun h => bL (bL (bL h)))) (Op1.of rfl (by first | exact fun _ => rfl | exact fun h => h | exact fun h => bL h | exact fun h => bL (bL h) | exact fun h => bL (bL (bL h)))) (fun _ => by omega) (by rw [hq]; exact wrap_i64 (by omega) (by omega)) rfl ⟨rfl, rfl⟩) rfl rfl ?_
  refine rd ?_
  refine GM.read (fun w' hS => Step.rem (r := r) rfl (Op1.of rfl (by first | exact fun _ => rfl | exact fun h => h | exact fun h => bL h | exact fun h => bL (bL h) | exact fun h => bL (bL (bL h)))) (Op1.of rfl (by first | exact fun _ => rfl | exact fun h => h | exact fun h => bL h | exact fun h => bL (bL h) | exact fun h => bL (bL (bL h)))) (fun _ => by omega) hr rfl ⟨rfl, rfl⟩) rfl rfl ?_
  refine rd ?_
  refine GM.nil ?_
  have hx := Ext.drew w
  generalize w.drew = w1 at hx ⊢
  refine rn ?_
  refine G.join (fun _ : Unit => [(6, none, .int .i64 Q), (7, none, .int .i64 R)]) (fun _ w' => w' = w1) ?_ ?_
  · rintro _ w2 hw2
    obtain rfl : w1 = w2 := hw2.symm
    refine rn ?_
    refine G.ret2 rfl rfl rfl rfl rfl ?_
    exact ⟨rfl, hx⟩
  · first | refine G.condD rfl (fun hc => ?_) (fun hc => ?_) | refine G.condN rfl (fun hc => ?_) (fun hc => ?_) | refine G.cond rfl (fun hc => ?_) (fun hc => ?_)
    · obtain ⟨-, rfl, rfl⟩ := hcase.resolve_right (by omega)
      refine rn ?_
      refine sAd tb ?_
      refine rn ?_
      refine sAd tb ?_
      refine rn ?_
      exact G.met () (by repeat (first | exact Sub.nil _ | refine Sub.cons rfl ?_)) rfl
    · obtain ⟨-, rfl, rfl⟩ := hcase.resolve_left (by omega)
      refine rn ?_
      exact G.met () (by repeat (first | exact Sub.nil _ | refine Sub.cons rfl ?_)) rfl
theorem floor_ok (b r : Nat) (w : World) (h : ∀ w : World, (Extern.MathFloor.toIntegral "math.archFloor" .down #[Fl b]).run Try.prog w = .ok (Fl r) w) :
    Ret Try.prog 29 ⟨[Fl b]⟩ w fun v w' => v = Fl r ∧ w' = w := by
  refine ret_of_G Try.func29 rfl Try.ntmps29 rfl ?_
  simp only [argEnv]
  refine rn ?_
  refine GL.cons (Step.ext rfl rfl (by repeat (first | exact OpL.nil | refine OpL.cons (Op1.of rfl (by first | exact fun _ => rfl | exact fun h => h | exact fun h => bL h | exact fun h => bL (bL h) | exact fun h => bL (bL (bL h)))) ?_)) (run_afloor Try.func73 (by kernel_rfl) (by kernel_rfl) (by kernel_rfl) (by kernel_rfl) b r _ (h _)) rfl ?_)
  refine rn ?_
  refine G.ret1 rfl rfl rfl rfl ?_
  exact ⟨rfl, rfl⟩
theorem floor0 : ∀ w : World, (Extern.MathFloor.toIntegral "math.archFloor" .down #[Fl 0]).run Try.prog w = .ok (Fl 0) w := fun w => by kernel_rfl
def leapB (y : Int) : Bool := decide (y.tmod 4 = 0) && (!decide (y.tmod 100 = 0) || decide (y.tmod 400 = 0))
theorem leap_ok (y : Int) (w : World) : Ret Try.prog 95 ⟨[.int .i64 y]⟩ w fun v w' => v = .bool (leapB y) ∧ w' = w := by
  refine ret_of_G Try.func95 rfl Try.ntmps95 rfl ?_
  simp only [argEnv]
  refine rn ?_
  refine sRem rfl ?_
  refine rn ?_
  refine sRem rfl ?_
  refine rn ?_
  refine sRem rfl ?_
  refine rn ?_
  refine G.ret1 rfl rfl rfl rfl ?_
  exact ⟨rfl, rfl⟩
def longB (y m : Int) : Int := if (decide (m = 2) && leapB y) = true then 29 else if m = 2 then 28 else if (decide (m = 4) || decide (m = 6) || decide (m = 9) || decide (m = 11)) = true then 30 else 31
theorem long_ok (y m : Int) (w : World) : Ret Try.prog 68 ⟨[.int .i64 y, .int .i64 m]⟩ w fun v w' => v = .int .i64 (longB y m) ∧ Ext w w' := by
  unfold longB
  refine ret_of_G Try.func68 rfl Try.ntmps68 rfl ?_
  simp only [argEnv]
  refine rn ?_
  refine sCallx c95 (fun _ => Ret.mono (leap_ok y w) fun _ _ h => ⟨h.1, by rw [h.2]; exact Ext.refl _⟩) ?_
  intro w1 hx1
  refine rn ?_
  first | refine G.condD rfl (fun hc => ?_) (fun hc => ?_) | refine G.condN rfl (fun hc => ?_) (fun hc => ?_) | refine G.cond rfl (fun hc => ?_) (fun hc => ?_)
  · rw [if_pos hc]
    refine rn ?_
    refine G.ret1 rfl rfl rfl rfl ?_
    exact ⟨rfl, hx1⟩
  rw [if_neg (by rw [hc]; simp)]
  clear hc
  refine rn ?_
  first | refine G.condD rfl (fun hc => ?_) (fun hc => ?_) | refine G.condN rfl (fun hc => ?_) (fun hc => ?_) | refine G.cond rfl (fun hc => ?_) (fun hc => ?_)
  · rw [if_pos hc]
    refine rn ?_
    refine G.ret1 rfl rfl rfl rfl ?_
    exact ⟨rfl, hx1⟩
  rw [if_neg hc]
  clear hc
  refine rn ?_
  first | refine G.condD rfl (fun hc => ?_) (fun hc => ?_) | refine G.condN rfl (fun hc => ?_) (fun hc => ?_) | refine G.cond rfl (fun hc => ?_) (fun hc => ?_)
  · rw [if_pos hc]
    refine rn ?_
    refine G.ret1 rfl rfl rfl rfl ?_
    exact ⟨rfl, hx1⟩
  rw [if_neg (by rw [hc]; simp)]
  refine rn ?_
  refine G.ret1 rfl rfl rfl rfl ?_
  exact ⟨rfl, hx1⟩
theorem date0_ok (w : World) : Ret Try.prog 67 ⟨[.int .i64 0]⟩ w fun v w' => v = .tuple ⟨[.int .i64 1970, .int .i64 1, .int .i64 1, .int .i64 1]⟩ ∧ Ext w w' := by
  refine ret_of_G Try.func67 rfl Try.ntmps67 rfl ?_
  simp only [argEnv]
  refine rn ?_
  refine sCall c66 (floored_ok 0 146097 w (by omega) (by omega) (by omega) (by omega)) ?_
  rintro _ w1 ⟨rfl, hx1⟩
  refine rn ?_
  refine sAd tb (r := 0) ?_
  refine sAd tb (r := 1970) ?_
  refine rn ?_
  refine (G.loop (fun _ : Unit => [(0, none, .int .i64 0), (2, none, .int .i64 1970), (7, none, .int .i64 0)]) (fun _ W => W = w1) (fun _ => 0) () (by repeat (first | exact Sub.nil _ | refine Sub.cons rfl ?_)) rfl ?_)
  rintro _ W hW
  obtain rfl : w1 = W := hW.symm
  refine rn ?_
  refine sCall c95 (leap_ok 1970 w1) ?_
  rintro _ w2 ⟨rfl, hw2⟩
  obtain rfl : w1 = w2 := hw2.symm
  rw [show leapB 1970 = false by decide]
  refine rn ?_
  refine sAd tb (r := 1) ?_
  refine rn ?_
  refine (G.loop (fun _ : Unit => [(2, none, .int .i64 1970), (3, none, .int .i64 1), (5, none, .int .i64 1), (7, none, .int .i64 0)]) (fun _ W => Ext w W) (fun _ => 0) () (by repeat (first | exact Sub.nil _ | refine Sub.cons rfl ?_)) hx1 ?_)
  rintro _ W hx
  refine rn ?_
  refine sCall c68 (long_ok 1970 1 W) ?_
  rintro _ w3 ⟨rfl, hx3⟩
  rw [show longB 1970 1 = 31 by decide]
  refine rn ?_
  refine sAd tb (r := 1) ?_
  refine rn ?_
  refine G.ret4 rfl rfl rfl rfl rfl rfl rfl ?_
  exact ⟨rfl, hx.trans hx3⟩
theorem part_year0 (w : World) : Ret Try.prog 27 ⟨[S [121, 101, 97, 114], Fl 0]⟩ w fun v w' => v = Fl 4656378967073226752 ∧ Ext w w' := by
  refine ret_of_G Try.func27 rfl Try.ntmps27 rfl ?_
  simp only [argEnv]
  refine rn ?_
  refine GL.cons (Step.fcmp (r := true) rfl (Op1.of rfl (by first | exact fun _ => rfl | exact fun h => h | exact fun h => bL h | exact fun h => bL (bL h) | exact fun h => bL (bL (bL h)))) (Op1.of rfl (by first | exact fun _ => rfl | exact fun h => h | exact fun h => bL h | exact fun h => bL (bL h) | exact fun h => bL (bL (bL h)))) (by kernel_rfl) rfl ?_)
  refine rn ?_
  refine GL.cons (Step.fcmp (r := true) rfl (Op1.of rfl (by first | exact fun _ => rfl | exact fun h => h | exact fun h => bL h | exact fun h => bL (bL h) | exact fun h => bL (bL (bL h)))) (Op1.of rfl (by first | exact fun _ => rfl | exact fun h => h | exact fun h => bL h | exact fun h => bL (bL h) | exact fun h => bL (bL (bL h)))) (by kernel_rfl) rfl ?_)
  refine rn ?_
  refine sCall c29 (floor_ok 0 0 w floor0) ?_
  rintro _ w1 ⟨rfl, hw1⟩
  obtain rfl : w = w1 := hw1.symm
  refine rn ?_
  refine GL.cons (Step.f2i (m := 0) tb rfl (Op1.of rfl (by first | exact fun _ => rfl | exact fun h => h | exact fun h => bL h | exact fun h => bL (bL h) | exact fun h => bL (bL (bL h)))) rfl rfl (by kernel_rfl) rfl ?_)
  refine sCall c66 (floored_ok 0 86400 w (by omega) (by omega) (by omega) (by omega)) ?_
  rintro _ w2 ⟨rfl, hx2⟩
  refine rn ?_
  refine sCall c67 (date0_ok w2) ?_
  rintro _ w3 ⟨rfl, hx3⟩
  refine rn ?_
  refine sAd tb (r := 4) ?_
  refine sCall c66 (floored_ok 4 7 w3 (by omega) (by omega) (by omega) (by omega)) ?_
  rintro _ w4 ⟨rfl, hx4⟩
  refine rn ?_
  refine GL.cons (Step.i2f (r := 4656378967073226752) tb rfl (Op1.of rfl (by first | exact fun _ => rfl | exact fun h => h | exact fun h => bL h | exact fun h => bL (bL h) | exact fun h => bL (bL (bL h)))) rfl rfl (by kernel_rfl) rfl ?_)
  refine rn ?_
  refine G.ret1 rfl rfl rfl rfl ?_
  exact ⟨rfl, (hx2.trans hx3).trans hx4⟩
end Go.Proofs.Ytbnckhfkkoncbaa
end
section
namespace Go.Vg
open Go.RowKit
section
variable {X : Cx} {ops : Array Oper} {l : List Oper} {k : List Kt} {e : Env} {w : World} {N : Env → World → Prop} {d : Nat} {c : Option Bool} {ty : TypeId} {pos : String} {af : Array Edge} {g : Option (Nat × Bool)}
theorem Step.eqSN (T : Tb X.P) {xt yt et : TypeId} {x y : Operand} {a : Addr} {n cap : Nat} (hg : guardE ops e ⟨some d, .binOp .eql xt x y yt, ty, pos, af, g⟩ = some c)
    (hx : Op1 e c x (.slice (some a) n cap)) (hy : Op1 e c y (.slice none 0 0)) (ht : T.ty xt = some (.slice et)) (hn : Nat.blt d X.n = true)
    (h : N ((d, c, .bool false) :: e) w) : Step X ops ⟨some d, .binOp .eql xt x y yt, ty, pos, af, g⟩ e w N :=
  Step.quiet rfl (by simpa [Nat.blt_eq] using hn) hg (fun _ hh => by cases hh) (fun t hf hc => by
    have hT := T.ok _ _ ht
    have h1 : (eqGuard .eql xt x y (.slice (some a) n cap) (.slice none 0 0)).run X.P w = .ok () w := by simp [eqGuard]
    have he := run_equal_slice_nil (P := X.P) w xt et (some a) n cap hT
    have h2 : (binOp .eql xt (.slice (some a) n cap) (.slice none 0 0)).run X.P w = .ok (.bool false) w := by
      simp only [binOp, Sem.run_bind, he, Sem.run_map, Result.andThen_ok, Sem.run_pure]; rfl
    simp only [execOp, hx.val hf hc, hy.val hf hc, Sem.run_bind, h1, h2, Result.andThen_ok, Sem.run_pure]) h
end
end Go.Vg
end
section
open Go Go.Vg Go.RowKit Go.Proofs Go.Proofs.Ytbnckhfkkoncbaa
namespace Go.Proofs.Ytbnckhfkkoncbaa

theorem isNaN_ok (b : Nat) (r : Bool) (w : World) (h : fcmpB .neq b b = some r) : Ret Try.prog 13 ⟨[Fl b]⟩ w fun v w' => v = .bool r ∧ Ext w w' := by
  refine ret_of_G Try.func13 rfl Try.ntmps13 rfl ?_
  simp only [argEnv]
  refine rn ?_
  refine GL.cons (Step.fcmp rfl (Op1.of rfl (by first | exact fun _ => rfl | exact fun h => h | exact fun h => bL h | exact fun h => bL (bL h) | exact fun h => bL (bL (bL h)))) (Op1.of rfl (by first | exact fun _ => rfl | exact fun h => h | exact fun h => bL h | exact fun h => bL (bL h) | exact fun h => bL (bL (bL h)))) h rfl ?_)
  refine rn ?_
  refine G.ret1 rfl rfl rfl rfl ?_
  exact ⟨rfl, Ext.refl _⟩
theorem cmp_lt (a b : Nat) (w : World) (h : fcmpB .lss a b = some true) : Ret Try.prog 50 ⟨[Fl a, Fl b]⟩ w fun v w' => v = .int .i64 (-1) ∧ Ext w w' := by
  refine ret_of_G Try.func50 rfl Try.ntmps50 rfl ?_
  simp only [argEnv]
  refine rn ?_
  refine GL.cons (Step.fcmp rfl (Op1.of rfl (by first | exact fun _ => rfl | exact fun h => h | exact fun h => bL h | exact fun h => bL (bL h) | exact fun h => bL (bL (bL h)))) (Op1.of rfl (by first | exact fun _ => rfl | exact fun h => h | exact fun h => bL h | exact fun h => bL (bL h) | exact fun h => bL (bL (bL h)))) h rfl ?_)
  refine rn ?_
  refine GL.cons (Step.off (v := .bool false) rfl (of_decide_eq_true rfl) rfl ?_)
  refine rn ?_
  refine GL.cons (Step.off (v := .bool false) rfl (of_decide_eq_true rfl) rfl ?_)
  refine rn ?_
  refine G.ret1 rfl rfl rfl rfl ?_
  exact ⟨rfl, Ext.refl _⟩
theorem cmp_gt (a b : Nat) (w : World) (h : fcmpB .lss a b = some false) (h2 : fcmpB .gtr a b = some true) (ha : fcmpB .neq a a = some false) : Ret Try.prog 50 ⟨[Fl a, Fl b]⟩ w fun v w' => v = .int .i64 1 ∧ Ext w w' := by
  refine ret_of_G Try.func50 rfl Try.ntmps50 rfl ?_
  simp only [argEnv]
  refine rn ?_
  refine GL.cons (Step.fcmp rfl (Op1.of rfl (by first | exact fun _ => rfl | exact fun h => h | exact fun h => bL h | exact fun h => bL (bL h) | exact fun h => bL (bL (bL h)))) (Op1.of rfl (by first | exact fun _ => rfl | exact fun h => h | exact fun h => bL h | exact fun h => bL (bL h) | exact fun h => bL (bL (bL h)))) h rfl ?_)
  refine rn ?_
  refine sCallx c13 (fun hc => isNaN_ok a false w ha) ?_
  intro w1 hx1
  refine rn ?_
  refine GL.cons (Step.off (v := .bool false) rfl (of_decide_eq_true rfl) rfl ?_)
  refine rn ?_
  refine GL.cons (Step.fcmp rfl (Op1.of rfl (by first | exact fun _ => rfl | exact fun h => h | exact fun h => bL h | exact fun h => bL (bL h) | exact fun h => bL (bL (bL h)))) (Op1.of rfl (by first | exact fun _ => rfl | exact fun h => h | exact fun h => bL h | exact fun h => bL (bL h) | exact fun h => bL (bL (bL h)))) h2 rfl ?_)
  refine rn ?_
  refine GL.cons (Step.off (v := .bool false) rfl (of_decide_eq_true rfl) rfl ?_)
  refine rn ?_
  refine GL.cons (Step.off (v := .bool false) rfl (of_decide_eq_true rfl) rfl ?_)
  refine rn ?_
  refine G.ret1 rfl rfl rfl rfl ?_
  exact ⟨rfl, hx1⟩
def fC (b : Nat) : List Value := [Fl b]
abbrev Fls (w : World) (v : Value) (xs : List Nat) : Prop := Sli w v 1 (xs.map fC)
abbrev FlO (w : World) (B : Nat) (v : Value) (xs : List Nat) : Prop := Owns w B v 24 1 (xs.map fC)
theorem f1 (xs : List Nat) : ∀ y ∈ xs.map fC, ∀ c ∈ y, c.oneCell' = true := by
  intro y hy c hc
  obtain ⟨x, _, rfl⟩ := List.mem_map.1 hy
  simp only [fC, List.mem_cons, List.not_mem_nil, or_false] at hc
  subst hc; rfl
theorem fLen (xs : List Nat) : ∀ y ∈ xs.map fC, y.length = 1 := by
  intro y hy
  obtain ⟨x, _, rfl⟩ := List.mem_map.1 hy
  rfl
theorem clone_ok (v : Value) (xs : List Nat) (w : World) (hv : Fls w v xs) (hl : xs.length ≤ 1000) (h0 : xs ≠ []) :
    Ret Try.prog 48 ⟨[v]⟩ w fun r w' => FlO w' w.heap.size r xs ∧ Ext w w' := by
  have hlen : (xs.map fC).length = xs.length := List.length_map ..
  obtain ⟨a, n, cap, rfl⟩ : ∃ a n cap, v = .slice (some a) n cap := by
    rcases hv with ⟨_, h⟩ | ⟨a, cap, h, _⟩
    · exact absurd (by simpa using h) h0
    · exact ⟨a, _, cap, h⟩
  refine ret_of_G Try.func48 rfl Try.ntmps48 rfl ?_
  simp only [argEnv]
  refine rn ?_
  refine GL.cons (Step.eqSN tb rfl (Op1.of rfl (by first | exact fun _ => rfl | exact fun h => h | exact fun h => bL h | exact fun h => bL (bL h) | exact fun h => bL (bL (bL h)))) (Op1.of rfl (by first | exact fun _ => rfl | exact fun h => h | exact fun h => bL h | exact fun h => bL (bL h) | exact fun h => bL (bL (bL h)))) rfl rfl ?_)
  refine rn ?_
  refine sBs' tb ([] : List (List Value)) ?_ (hkl := by simp)
  intro v1 w1 ho1 hs1 hx1
  refine rn ?_
  refine sApp tb ho1 (hv.to hx1) ?_ (h1 := f1 xs) (hB := hx1.size) (hl := by simp only [hlen, List.length_nil]; omega) (hb := by simp only [hlen, List.length_nil]; omega)
  intro v2 w2 ho2 hg2
  refine rn ?_
  refine G.ret1 rfl rfl rfl rfl ?_
  exact ⟨ho2, hg2.below _ hx1⟩
end Go.Proofs.Ytbnckhfkkoncbaa
end
section
open Go Go.Vg Go.RowKit Go.Proofs Go.Proofs.Ytbnckhfkkoncbaa
namespace Go.Proofs.Ytbnckhfkkoncbaa

abbrev CF : Value := .func (.func 50) #[] ⟨[]⟩
set_option maxHeartbeats 4000000 in
theorem ins_ok (a b c : Nat) (h1 : fcmpB .lss b a = some true) (h2 : fcmpB .lss c a = some true) (h3 : fcmpB .lss c b = some false) (h4 : fcmpB .gtr c b = some true) (h5 : fcmpB .neq c c = some false) (B : Nat) (v : Value) (w : World) (ho : FlO w B v [a, b, c]) (hB : B ≤ w.heap.size) :
    Ret Try.prog 103 ⟨[v, .int .i64 0, .int .i64 3, CF]⟩ w fun _ w' => FlO w' B v [b, c, a] ∧ Below B w w' ∧ B ≤ w'.heap.size := by
  refine ret_of_G Try.func103 rfl Try.ntmps103 rfl ?_
  simp only [argEnv]
  refine rn ?_
  refine sAd tb (r := 1) ?_
  refine rn ?_
  refine (G.loop (fun i : Nat => [(0, none, v), (1, none, .int .i64 0), (2, none, .int .i64 3), (3, none, CF), (8, none, .int .i64 i)]) (fun i W => Below B w W ∧ B ≤ W.heap.size ∧ ((i = 1 ∧ FlO W B v [a, b, c]) ∨ (i = 2 ∧ FlO W B v [b, a, c]) ∨ (i = 3 ∧ FlO W B v [b, c, a]))) (fun i => 3 - i) 1 (by repeat (first | exact Sub.nil _ | refine Sub.cons rfl ?_)) ⟨Below.refl _ _, hB, .inl ⟨rfl, ho⟩⟩ ?_)
  clear ho hB
  rintro i W ⟨hb, hBW, ⟨rfl, ho⟩ | ⟨rfl, ho⟩ | ⟨rfl, ho⟩⟩
  · refine rn ?_
    refine (G.loop (fun j : Nat => [(0, none, v), (1, none, .int .i64 0), (2, none, .int .i64 3), (3, none, CF), (8, none, .int .i64 1), (9, none, .int .i64 j)]) (fun j W => Below B w W ∧ B ≤ W.heap.size ∧ ((j = 1 ∧ FlO W B v [a, b, c]) ∨ (j = 0 ∧ FlO W B v [b, a, c]))) (fun j => j) 1 (by repeat (first | exact Sub.nil _ | refine Sub.cons rfl ?_)) ⟨hb, hBW, .inl ⟨rfl, ho⟩⟩ ?_)
    clear ho hb hBW W
    rintro j W ⟨hb, hBW, ⟨rfl, ho⟩ | ⟨rfl, ho⟩⟩
    · refine rn ?_
      refine G.regionM [(0, true), (1, true), (2, true), (3, true), (4, true), (5, true), (6, true), (7, true), (8, true), (9, true), (10, true), (11, true), (12, true), (13, true), (14, false), (15, true), (16, true)] (Ext W) (by kernel_rfl) (by kernel_rfl) rfl mixed (Ext.drew W) rfl ?_
      have hs := ho.sli
      have hg0 : ([a, b, c].map fC)[0]? = some (fC a) := rfl
      have hg1 : ([a, b, c].map fC)[1]? = some (fC b) := rfl
      have hg2 : ([a, b, c].map fC)[2]? = some (fC c) := rfl
      have hlen : ([a, b, c].map fC).length = 3 := rfl
      try (refine mm tb ?_); repeat ((first | refine dFa tb ?_ | refine dLd tb ?_ | refine dLa tb ?_ | refine dLen tb ?_ | refine dFd tb ?_ | refine dIa tb 1 ?_); try (refine mm tb ?_))
      refine dAd tb (r := 0) ?_
      try (refine mm tb ?_); repeat ((first | refine dFa tb ?_ | refine dLd tb ?_ | refine dLa tb ?_ | refine dLen tb ?_ | refine dFd tb ?_ | refine dIa tb 0 ?_); try (refine mm tb ?_))
      refine GM.eff (Step.callXC rfl (Op1.of rfl (by first | exact fun _ => rfl | exact fun h => h | exact fun h => bL h | exact fun h => bL (bL h) | exact fun h => bL (bL (bL h)))) rfl (by repeat (first | exact OpL.nil | refine OpL.cons (Op1.of rfl (by first | exact fun _ => rfl | exact fun h => h | exact fun h => bL h | exact fun h => bL (bL h) | exact fun h => bL (bL (bL h)))) ?_)) c50 rfl (fun _ => cmp_lt b a _ h1) ?_ (vs := [Fl b, Fl a]))
      intro w1 hx1
      have hx1 := (Ext.drew W).trans hx1
      refine ⟨hx1, ?_⟩
      refine rd ?_
      refine GM.nil ?_
      have ho1 := ho.to hx1
      have hbx1 := hb.ext hx1 hBW
      refine rn ?_
      refine G.regionG (fun _ => True) mixed trivial ?_
      have ho1 := ho1.to (Ext.drew w1)
      have hbx1 := hbx1.ext (Ext.drew w1) (Nat.le_trans hBW hx1.size)
      have hBz : B ≤ w1.drew.heap.size := Nat.le_trans hBW (Nat.le_trans hx1.size (Ext.drew w1).size)
      generalize w1.drew = w2 at ho1 hbx1 hBz ⊢
      have hs2 := ho1.sli
      refine GD.steps ([(0, true), (1, true), (2, true), (3, true), (4, true), (5, true), (6, true), (7, true), (8, true), (10, true), (11, true), (12, true)]) (by kernel_rfl) (by kernel_rfl) rfl ?_
      refine rd ?_
      refine dAd tb (r := 0) ?_
      refine rd ?_
      refine dAd tb (r := 0) ?_
      refine dIa tb 0 ?_
      refine rd ?_
      refine dIa tb 1 ?_
      refine rd ?_
      refine GM.nil ?_
      refine GD.join [0, 1, 2, 3, 4, 5, 6, 7, 8, 9, 10, 11, 12, 13] (fun _ : Unit => [(0, none, v), (1, none, .int .i64 0), (2, none, .int .i64 3), (3, none, CF), (8, none, .int .i64 1), (9, none, .int .i64 1), (37, none, v), (38, none, .int .i64 1), (39, none, v), (41, none, .int .i64 0), (46, none, Fl a), (50, none, Fl b)]) (fun _ w' => w' = w2) ?_ fun meet => ?_
      rotate_left
      · refine GD.two (9) (13) (by kernel_rfl) (by kernel_rfl) rfl rfl ?_ ?_
        · refine (Step.load1 tb rfl (Op1.of rfl (by first | exact fun _ => rfl | exact fun h => h | exact fun h => bL h | exact fun h => bL (bL h) | exact fun h => bL (bL (bL h)))) rfl rfl (fun _ => (Sli.elem hs2 hg0).c0 rfl) rfl ?_)
          refine ⟨trivial, ?_⟩
          refine GD.steps ([(13, false)]) (by kernel_rfl) (by kernel_rfl) rfl ?_
          refine GM.eff (Step.load1 tb rfl (Op1.of rfl (by first | exact fun _ => rfl | exact fun h => h | exact fun h => bL h | exact fun h => bL (bL h) | exact fun h => bL (bL (bL h)))) rfl rfl (fun _ => (Sli.elem hs2 hg1).c0 rfl) rfl ?_)
          refine ⟨trivial, ?_⟩
          refine GM.nil ?_
          exact meet () _ _ _ rfl rfl (by repeat (first | exact Sub.nil _ | refine Sub.cons rfl ?_)) rfl
        · refine (Step.load1 tb rfl (Op1.of rfl (by first | exact fun _ => rfl | exact fun h => h | exact fun h => bL h | exact fun h => bL (bL h) | exact fun h => bL (bL (bL h)))) rfl rfl (fun _ => (Sli.elem hs2 hg1).c0 rfl) rfl ?_)
          refine ⟨trivial, ?_⟩
          refine GD.steps ([(9, false)]) (by kernel_rfl) (by kernel_rfl) rfl ?_
          refine GM.eff (Step.load1 tb rfl (Op1.of rfl (by first | exact fun _ => rfl | exact fun h => h | exact fun h => bL h | exact fun h => bL (bL h) | exact fun h => bL (bL (bL h)))) rfl rfl (fun _ => (Sli.elem hs2 hg0).c0 rfl) rfl ?_)
          refine ⟨trivial, ?_⟩
          refine GM.nil ?_
          exact meet () _ _ _ rfl rfl (by repeat (first | exact Sub.nil _ | refine Sub.cons rfl ?_)) rfl
      rintro _ w3 hw3
      obtain rfl : w2 = w3 := hw3.symm
      refine GD.steps ([(14, true), (15, false), (16, true), (17, false)]) (by kernel_rfl) (by kernel_rfl) rfl ?_
      refine dIa tb 1 ?_
      refine GM.eff (Step.storeRow (j := 1) (vs := fC a) tb rfl (Op1.of rfl (by first | exact fun _ => rfl | exact fun h => h | exact fun h => bL h | exact fun h => bL (bL h) | exact fun h => bL (bL (bL h)))) (Op1.of rfl (by first | exact fun _ => rfl | exact fun h => h | exact fun h => bL h | exact fun h => bL (bL h) | exact fun h => bL (bL (bL h)))) rfl rfl rfl (f1 [a] _ (List.mem_cons_self ..)) ho1 (show (1 : Nat) < 3 by decide) ?_)
      intro w4 ho4 hg4
      have ho4 : FlO w4 B v [a, a, c] := ho4
      have hb4 := hg4.below _ hbx1
      refine ⟨trivial, ?_⟩
      refine dIa tb 0 ?_
      refine GM.eff (Step.storeRow (j := 0) (vs := fC b) tb rfl (Op1.of rfl (by first | exact fun _ => rfl | exact fun h => h | exact fun h => bL h | exact fun h => bL (bL h) | exact fun h => bL (bL (bL h)))) (Op1.of rfl (by first | exact fun _ => rfl | exact fun h => h | exact fun h => bL h | exact fun h => bL (bL h) | exact fun h => bL (bL (bL h)))) rfl rfl rfl (f1 [b] _ (List.mem_cons_self ..)) ho4 (show (0 : Nat) < 3 by decide) ?_)
      intro w5 ho5 hg5
      have ho5 : FlO w5 B v [b, a, c] := ho5
      have hb5 := hg5.below _ hb4
      have hBz5 : B ≤ w5.heap.size := Nat.le_trans hBz (Nat.le_trans hg4.size hg5.size)
      refine ⟨trivial, ?_⟩
      refine GM.nil ?_
      refine GD.done (by kernel_rfl) ?_
      refine rn ?_
      refine sAd tb (r := 0) ?_
      refine rn ?_
      exact G.lp (x := 1) 0 (by repeat (first | exact Sub.nil _ | refine Sub.cons rfl ?_)) ⟨hb5, hBz5, .inr ⟨rfl, ho5⟩⟩ (by decide)
    · refine rn ?_
      refine G.regionM [(0, true), (1, true), (2, true), (3, true), (4, true), (5, true), (6, true), (7, true), (8, true), (9, true), (10, true), (11, true), (12, true), (13, true), (14, false), (15, true), (16, true)] (Ext W) (by kernel_rfl) (by kernel_rfl) rfl mixed (Ext.drew W) rfl ?_
      refine rd ?_
      refine GM.read (fun w' hS => Step.off (v := .pointer none) rfl (of_decide_eq_true rfl) rfl ⟨rfl, rfl⟩) rfl rfl ?_
      refine GM.read (fun w' hS => Step.off (v := Fl 0) rfl (of_decide_eq_true rfl) rfl ⟨rfl, rfl⟩) rfl rfl ?_
      refine rd ?_
      refine GM.read (fun w' hS => Step.off (v := .int .i64 0) rfl (of_decide_eq_true rfl) rfl ⟨rfl, rfl⟩) rfl rfl ?_
      refine GM.read (fun w' hS => Step.off (v := .pointer none) rfl (of_decide_eq_true rfl) rfl ⟨rfl, rfl⟩) rfl rfl ?_
      refine GM.read (fun w' hS => Step.off (v := Fl 0) rfl (of_decide_eq_true rfl) rfl ⟨rfl, rfl⟩) rfl rfl ?_
      refine GM.eff (Step.off (v := .int .i64 0) rfl (of_decide_eq_true rfl) rfl ⟨Ext.drew W, ?_⟩)
      refine rd ?_
      refine GM.nil ?_
      have hbd := hb.ext (Ext.drew W) hBW
      have hBd : B ≤ W.drew.heap.size := Nat.le_trans hBW (Ext.drew W).size
      have hod := ho.to (Ext.drew W)
      refine rn ?_
      refine sAd tb (r := 2) ?_
      refine rn ?_
      exact G.lp (x := 1) 2 (by repeat (first | exact Sub.nil _ | refine Sub.cons rfl ?_)) ⟨hbd, hBd, .inr (.inl ⟨rfl, hod⟩)⟩ (by decide)
  · refine rn ?_
    refine (G.loop (fun j : Nat => [(0, none, v), (1, none, .int .i64 0), (2, none, .int .i64 3), (3, none, CF), (8, none, .int .i64 2), (9, none, .int .i64 j)]) (fun j W => Below B w W ∧ B ≤ W.heap.size ∧ ((j = 2 ∧ FlO W B v [b, a, c]) ∨ (j = 1 ∧ FlO W B v [b, c, a]))) (fun j => j) 2 (by repeat (first | exact Sub.nil _ | refine Sub.cons rfl ?_)) ⟨hb, hBW, .inl ⟨rfl, ho⟩⟩ ?_)
    clear ho hb hBW W
    rintro j W ⟨hb, hBW, ⟨rfl, ho⟩ | ⟨rfl, ho⟩⟩
    · refine rn ?_
      refine G.regionM [(0, true), (1, true), (2, true), (3, true), (4, true), (5, true), (6, true), (7, true), (8, true), (9, true), (10, true), (11, true), (12, true), (13, true), (14, false), (15, true), (16, true)] (Ext W) (by kernel_rfl) (by kernel_rfl) rfl mixed (Ext.drew W) rfl ?_
      have hs := ho.sli
      have hg0 : ([b, a, c].map fC)[0]? = some (fC b) := rfl
      have hg1 : ([b, a, c].map fC)[1]? = some (fC a) := rfl
      have hg2 : ([b, a, c].map fC)[2]? = some (fC c) := rfl
      have hlen : ([b, a, c].map fC).length = 3 := rfl
      try (refine mm tb ?_); repeat ((first | refine dFa tb ?_ | refine dLd tb ?_ | refine dLa tb ?_ | refine dLen tb ?_ | refine dFd tb ?_ | refine dIa tb 2 ?_); try (refine mm tb ?_))
      refine dAd tb (r := 1) ?_
      try (refine mm tb ?_); repeat ((first | refine dFa tb ?_ | refine dLd tb ?_ | refine dLa tb ?_ | refine dLen tb ?_ | refine dFd tb ?_ | refine dIa tb 1 ?_); try (refine mm tb ?_))
      refine GM.eff (Step.callXC rfl (Op1.of rfl (by first | exact fun _ => rfl | exact fun h => h | exact fun h => bL h | exact fun h => bL (bL h) | exact fun h => bL (bL (bL h)))) rfl (by repeat (first | exact OpL.nil | refine OpL.cons (Op1.of rfl (by first | exact fun _ => rfl | exact fun h => h | exact fun h => bL h | exact fun h => bL (bL h) | exact fun h => bL (bL (bL h)))) ?_)) c50 rfl (fun _ => cmp_lt c a _ h2) ?_ (vs := [Fl c, Fl a]))
      intro w1 hx1
      have hx1 := (Ext.drew W).trans hx1
      refine ⟨hx1, ?_⟩
      refine rd ?_
      refine GM.nil ?_
      have ho1 := ho.to hx1
      have hbx1 := hb.ext hx1 hBW
      refine rn ?_
      refine G.regionG (fun _ => True) mixed trivial ?_
      have ho1 := ho1.to (Ext.drew w1)
      have hbx1 := hbx1.ext (Ext.drew w1) (Nat.le_trans hBW hx1.size)
      have hBz : B ≤ w1.drew.heap.size := Nat.le_trans hBW (Nat.le_trans hx1.size (Ext.drew w1).size)
      generalize w1.drew = w2 at ho1 hbx1 hBz ⊢
      have hs2 := ho1.sli
      refine GD.steps ([(0, true), (1, true), (2, true), (3, true), (4, true), (5, true), (6, true), (7, true), (8, true), (10, true), (11, true), (12, true)]) (by kernel_rfl) (by kernel_rfl) rfl ?_
      refine rd ?_
      refine dAd tb (r := 1) ?_
      refine rd ?_
      refine dAd tb (r := 1) ?_
      refine dIa tb 1 ?_
      refine rd ?_
      refine dIa tb 2 ?_
      refine rd ?_
      refine GM.nil ?_
      refine GD.join [0, 1, 2, 3, 4, 5, 6, 7, 8, 9, 10, 11, 12, 13] (fun _ : Unit => [(0, none, v), (1, none, .int .i64 0), (2, none, .int .i64 3), (3, none, CF), (8, none, .int .i64 2), (9, none, .int .i64 2), (37, none, v), (38, none, .int .i64 2), (39, none, v), (41, none, .int .i64 1), (46, none, Fl a), (50, none, Fl c)]) (fun _ w' => w' = w2) ?_ fun meet => ?_
      rotate_left
      · refine GD.two (9) (13) (by kernel_rfl) (by kernel_rfl) rfl rfl ?_ ?_
        · refine (Step.load1 tb rfl (Op1.of rfl (by first | exact fun _ => rfl | exact fun h => h | exact fun h => bL h | exact fun h => bL (bL h) | exact fun h => bL (bL (bL h)))) rfl rfl (fun _ => (Sli.elem hs2 hg1).c0 rfl) rfl ?_)
          refine ⟨trivial, ?_⟩
          refine GD.steps ([(13, false)]) (by kernel_rfl) (by kernel_rfl) rfl ?_
          refine GM.eff (Step.load1 tb rfl (Op1.of rfl (by first | exact fun _ => rfl | exact fun h => h | exact fun h => bL h | exact fun h => bL (bL h) | exact fun h => bL (bL (bL h)))) rfl rfl (fun _ => (Sli.elem hs2 hg2).c0 rfl) rfl ?_)
          refine ⟨trivial, ?_⟩
          refine GM.nil ?_
          exact meet () _ _ _ rfl rfl (by repeat (first | exact Sub.nil _ | refine Sub.cons rfl ?_)) rfl
        · refine (Step.load1 tb rfl (Op1.of rfl (by first | exact fun _ => rfl | exact fun h => h | exact fun h => bL h | exact fun h => bL (bL h) | exact fun h => bL (bL (bL h)))) rfl rfl (fun _ => (Sli.elem hs2 hg2).c0 rfl) rfl ?_)
          refine ⟨trivial, ?_⟩
          refine GD.steps ([(9, false)]) (by kernel_rfl) (by kernel_rfl) rfl ?_
          refine GM.eff (Step.load1 tb rfl (Op1.of rfl (by first | exact fun _ => rfl | exact fun h => h | exact fun h => bL h | exact fun h => bL (bL h) | exact fun h => bL (bL (bL h)))) rfl rfl (fun _ => (Sli.elem hs2 hg1).c0 rfl) rfl ?_)
          refine ⟨trivial, ?_⟩
          refine GM.nil ?_
          exact meet () _ _ _ rfl rfl (by repeat (first | exact Sub.nil _ | refine Sub.cons rfl ?_)) rfl
      rintro _ w3 hw3
      obtain rfl : w2 = w3 := hw3.symm
      refine GD.steps ([(14, true), (15, false), (16, true), (17, false)]) (by kernel_rfl) (by kernel_rfl) rfl ?_
      refine dIa tb 2 ?_
      refine GM.eff (Step.storeRow (j := 2) (vs := fC a) tb rfl (Op1.of rfl (by first | exact fun _ => rfl | exact fun h => h | exact fun h => bL h | exact fun h => bL (bL h) | exact fun h => bL (bL (bL h)))) (Op1.of rfl (by first | exact fun _ => rfl | exact fun h => h | exact fun h => bL h | exact fun h => bL (bL h) | exact fun h => bL (bL (bL h)))) rfl rfl rfl (f1 [a] _ (List.mem_cons_self ..)) ho1 (show (2 : Nat) < 3 by decide) ?_)
      intro w4 ho4 hg4
      have ho4 : FlO w4 B v [b, a, a] := ho4
      have hb4 := hg4.below _ hbx1
      refine ⟨trivial, ?_⟩
      refine dIa tb 1 ?_
      refine GM.eff (Step.storeRow (j := 1) (vs := fC c) tb rfl (Op1.of rfl (by first | exact fun _ => rfl | exact fun h => h | exact fun h => bL h | exact fun h => bL (bL h) | exact fun h => bL (bL (bL h)))) (Op1.of rfl (by first | exact fun _ => rfl | exact fun h => h | exact fun h => bL h | exact fun h => bL (bL h) | exact fun h => bL (bL (bL h)))) rfl rfl rfl (f1 [c] _ (List.mem_cons_self ..)) ho4 (show (1 : Nat) < 3 by decide) ?_)
      intro w5 ho5 hg5
      have ho5 : FlO w5 B v [b, c, a] := ho5
      have hb5 := hg5.below _ hb4
      have hBz5 : B ≤ w5.heap.size := Nat.le_trans hBz (Nat.le_trans hg4.size hg5.size)
      refine ⟨trivial, ?_⟩
      refine GM.nil ?_
      refine GD.done (by kernel_rfl) ?_
      refine rn ?_
      refine sAd tb (r := 1) ?_
      refine rn ?_
      exact G.lp (x := 2) 1 (by repeat (first | exact Sub.nil _ | refine Sub.cons rfl ?_)) ⟨hb5, hBz5, .inr ⟨rfl, ho5⟩⟩ (by decide)
    · refine rn ?_
      refine G.regionM [(0, true), (1, true), (2, true), (3, true), (4, true), (5, true), (6, true), (7, true), (8, true), (9, true), (10, true), (11, true), (12, true), (13, true), (14, false), (15, true), (16, true)] (Ext W) (by kernel_rfl) (by kernel_rfl) rfl mixed (Ext.drew W) rfl ?_
      have hs := ho.sli
      have hg0 : ([b, c, a].map fC)[0]? = some (fC b) := rfl
      have hg1 : ([b, c, a].map fC)[1]? = some (fC c) := rfl
      have hg2 : ([b, c, a].map fC)[2]? = some (fC a) := rfl
      have hlen : ([b, c, a].map fC).length = 3 := rfl
      try (refine mm tb ?_); repeat ((first | refine dFa tb ?_ | refine dLd tb ?_ | refine dLa tb ?_ | refine dLen tb ?_ | refine dFd tb ?_ | refine dIa tb 1 ?_); try (refine mm tb ?_))
      refine dAd tb (r := 0) ?_
      try (refine mm tb ?_); repeat ((first | refine dFa tb ?_ | refine dLd tb ?_ | refine dLa tb ?_ | refine dLen tb ?_ | refine dFd tb ?_ | refine dIa tb 0 ?_); try (refine mm tb ?_))
      refine GM.eff (Step.callXC rfl (Op1.of rfl (by first | exact fun _ => rfl | exact fun h => h | exact fun h => bL h | exact fun h => bL (bL h) | exact fun h => bL (bL (bL h)))) rfl (by repeat (first | exact OpL.nil | refine OpL.cons (Op1.of rfl (by first | exact fun _ => rfl | exact fun h => h | exact fun h => bL h | exact fun h => bL (bL h) | exact fun h => bL (bL (bL h)))) ?_)) c50 rfl (fun _ => cmp_gt c b _ h3 h4 h5) ?_ (vs := [Fl c, Fl b]))
      intro w1 hx1
      have hx1 := (Ext.drew W).trans hx1
      refine ⟨hx1, ?_⟩
      refine rd ?_
      refine GM.nil ?_
      have ho1 := ho.to hx1
      have hbx1 := hb.ext hx1 hBW
      refine rn ?_
      refine sAd tb (r := 3) ?_
      refine rn ?_
      exact G.lp (x := 2) 3 (by repeat (first | exact Sub.nil _ | refine Sub.cons rfl ?_)) ⟨hbx1, Nat.le_trans hBW hx1.size, .inr (.inr ⟨rfl, ho1⟩)⟩ (by decide)
  · refine rn ?_
    refine G.end0 rfl rfl rfl ?_
    exact ⟨ho, hb, hBW⟩
end Go.Proofs.Ytbnckhfkkoncbaa
end
section
namespace Go.Vg
open Go.RowKit
section
variable {X : Cx} {ops : Array Oper} {l : List Oper} {k : List Kt} {e : Env} {w : World} {N : Env → World → Prop} {d : Nat} {c : Option Bool} {ty : TypeId} {pos : String} {af : Array Edge} {g : Option (Nat × Bool)}
theorem Step.min2 {x y : Operand} {t1 t2 : TypeId} {q : IntKind} {a b : Int} (hg : guardE ops e ⟨some d, .call { callee := .builtin .min, args := #[x, y], argTypes := #[t1, t2] }, ty, pos, af, g⟩ = some none)
    (hx : Op1 e none x (.int q a)) (hy : Op1 e none y (.int q b)) (hn : Nat.blt d X.n = true)
    (h : N ((d, none, .int q (if b < a then b else a)) :: e) w) : Step X ops ⟨some d, .call { callee := .builtin .min, args := #[x, y], argTypes := #[t1, t2] }, ty, pos, af, g⟩ e w N :=
  Step.eff rfl (by simpa [Nat.blt_eq] using hn) hg (fun _ hh => by cases hh) (fun t' hf => run_builtin2 (hx.val hf rfl) (hy.val hf rfl) fun cs => by
    simp [builtin, Builtin.min_, Builtin.min2]) h
end
end Go.Vg
end
section
open Go Go.Vg Go.RowKit Go.Proofs Go.Proofs.Ytbnckhfkkoncbaa
namespace Go.Proofs.Ytbnckhfkkoncbaa

theorem stable_ok (a b c : Nat) (h1 : fcmpB .lss b a = some true) (h2 : fcmpB .lss c a = some true) (h3 : fcmpB .lss c b = some false) (h4 : fcmpB .gtr c b = some true) (h5 : fcmpB .neq c c = some false) (B : Nat) (v : Value) (w : World) (ho : FlO w B v [a, b, c]) (hB : B ≤ w.heap.size) :
    Ret Try.prog 88 ⟨[v, .int .i64 3, CF]⟩ w fun _ w' => FlO w' B v [b, c, a] ∧ Below B w w' ∧ B ≤ w'.heap.size := by
  refine ret_of_G Try.func88 rfl Try.ntmps88 rfl ?_
  simp only [argEnv]
  refine rn ?_
  refine (G.loop (fun _ : Unit => [(0, none, v), (1, none, .int .i64 3), (2, none, CF), (6, none, .int .i64 20), (7, none, .int .i64 0), (8, none, .int .i64 20)]) (fun _ W => W = w) (fun _ => 0) () (by repeat (first | exact Sub.nil _ | refine Sub.cons rfl ?_)) rfl ?_)
  rintro _ W hW
  obtain rfl : w = W := hW.symm
  refine rn ?_
  refine sCall c103 (ins_ok a b c h1 h2 h3 h4 h5 B v w ho hB) ?_
  rintro _ w1 hw1
  refine rn ?_
  refine (G.loop (fun _ : Unit => [(0, none, v), (1, none, .int .i64 3), (2, none, CF), (6, none, .int .i64 20)]) (fun _ W => W = w1) (fun _ => 0) () (by repeat (first | exact Sub.nil _ | refine Sub.cons rfl ?_)) rfl ?_)
  rintro _ W hW
  obtain rfl : w1 = W := hW.symm
  refine rn ?_
  refine G.end0 rfl rfl rfl ?_
  exact hw1
theorem sortS_ok (a b c : Nat) (h1 : fcmpB .lss b a = some true) (h2 : fcmpB .lss c a = some true) (h3 : fcmpB .lss c b = some false) (h4 : fcmpB .gtr c b = some true) (h5 : fcmpB .neq c c = some false) (B : Nat) (v : Value) (w : World) (ho : FlO w B v [a, b, c]) (hB : B ≤ w.heap.size) :
    Ret Try.prog 49 ⟨[v, CF]⟩ w fun _ w' => FlO w' B v [b, c, a] ∧ Below B w w' ∧ B ≤ w'.heap.size := by
  have hs := ho.sli
  have hlen : (([a, b, c] : List Nat).map fC).length = 3 := rfl
  refine ret_of_G Try.func49 rfl Try.ntmps49 rfl ?_
  simp only [argEnv]
  refine rn ?_
  rw [hlen]
  refine rn ?_
  refine sCall c88 (stable_ok a b c h1 h2 h3 h4 h5 B v w ho hB) ?_
  rintro _ w1 hw1
  refine rn ?_
  refine G.end0 rfl rfl rfl ?_
  exact hw1
theorem floor1 : ∀ w : World, (Extern.MathFloor.toIntegral "math.archFloor" .down #[Fl 4607182418800017408]).run Try.prog w = .ok (Fl 4607182418800017408) w := fun w => by kernel_rfl
set_option maxHeartbeats 2000000 in
theorem quantile_ok (v : Value) (w : World) (hv : Fls w v [4613937818241073152, 4607182418800017408, 4611686018427387904]) : Ret Try.prog 14 ⟨[Fl 4602678819172646912, v]⟩ w fun r w' => r = Fl 4611686018427387904 ∧ Ext w w' := by
  have hlen : (([4613937818241073152, 4607182418800017408, 4611686018427387904] : List Nat).map fC).length = 3 := rfl
  refine ret_of_G Try.func14 rfl Try.ntmps14 rfl ?_
  simp only [argEnv]
  refine rn ?_
  rw [hlen]
  refine rn ?_
  refine sCallx c13 (fun _ => isNaN_ok 4602678819172646912 false w (by kernel_rfl)) ?_
  intro w1 hx1
  refine rn ?_
  refine GL.cons (Step.fcmp (r := false) rfl (Op1.of rfl (by first | exact fun _ => rfl | exact fun h => h | exact fun h => bL h | exact fun h => bL (bL h) | exact fun h => bL (bL (bL h)))) (Op1.of rfl (by first | exact fun _ => rfl | exact fun h => h | exact fun h => bL h | exact fun h => bL (bL h) | exact fun h => bL (bL (bL h)))) (by kernel_rfl) rfl ?_)
  refine rn ?_
  refine GL.cons (Step.fcmp (r := false) rfl (Op1.of rfl (by first | exact fun _ => rfl | exact fun h => h | exact fun h => bL h | exact fun h => bL (bL h) | exact fun h => bL (bL (bL h)))) (Op1.of rfl (by first | exact fun _ => rfl | exact fun h => h | exact fun h => bL h | exact fun h => bL (bL h) | exact fun h => bL (bL (bL h)))) (by kernel_rfl) rfl ?_)
  refine rn ?_
  refine sCall c48 (clone_ok v _ w1 (hv.to hx1) (by decide) (by simp)) ?_
  rintro u w2 ⟨ho, hx2⟩
  refine rn ?_
  refine sCall c49 (sortS_ok 4613937818241073152 4607182418800017408 4611686018427387904 (by kernel_rfl) (by kernel_rfl) (by kernel_rfl) (by kernel_rfl) (by kernel_rfl) w1.heap.size u w2 ho hx2.size) ?_
  rintro _ w3 ⟨ho3, hb3, hB3⟩
  have hs3 := ho3.sli
  have hlen3 : (([4607182418800017408, 4611686018427387904, 4613937818241073152] : List Nat).map fC).length = 3 := rfl
  have hx3 : Ext w w3 := hx1.trans (Below.trans (B := w1.heap.size) hx2 hb3)
  refine rn ?_
  rw [hlen3]
  refine rn ?_
  refine sAd tb (r := 2) ?_
  refine GL.cons (Step.i2f (r := 4611686018427387904) tb rfl (Op1.of rfl (by first | exact fun _ => rfl | exact fun h => h | exact fun h => bL h | exact fun h => bL (bL h) | exact fun h => bL (bL (bL h)))) rfl rfl (by kernel_rfl) rfl ?_)
  refine GL.cons (Step.flt (r := 4607182418800017408) rfl (Op1.of rfl (by first | exact fun _ => rfl | exact fun h => h | exact fun h => bL h | exact fun h => bL (bL h) | exact fun h => bL (bL (bL h)))) (Op1.of rfl (by first | exact fun _ => rfl | exact fun h => h | exact fun h => bL h | exact fun h => bL (bL h) | exact fun h => bL (bL (bL h)))) (by kernel_rfl) rfl ?_)
  refine rn ?_
  refine sCall c29 (floor_ok 4607182418800017408 4607182418800017408 w3 floor1) ?_
  rintro _ w4 ⟨rfl, hw4⟩
  obtain rfl : w3 = w4 := hw4.symm
  refine GL.cons (Step.f2i (m := 1) tb rfl (Op1.of rfl (by first | exact fun _ => rfl | exact fun h => h | exact fun h => bL h | exact fun h => bL (bL h) | exact fun h => bL (bL (bL h)))) rfl rfl (by kernel_rfl) rfl ?_)
  refine rn ?_
  refine sAd tb (r := 2) ?_
  refine rn ?_
  rw [hlen3]
  refine rn ?_
  refine sAd tb (r := 2) ?_
  refine GL.cons (Step.min2 rfl (Op1.of rfl (by first | exact fun _ => rfl | exact fun h => h | exact fun h => bL h | exact fun h => bL (bL h) | exact fun h => bL (bL (bL h)))) (Op1.of rfl (by first | exact fun _ => rfl | exact fun h => h | exact fun h => bL h | exact fun h => bL (bL h) | exact fun h => bL (bL (bL h)))) rfl ?_)
  refine rn ?_
  refine sCall c29 (floor_ok 4607182418800017408 4607182418800017408 w3 floor1) ?_
  rintro _ w4 ⟨rfl, hw4⟩
  obtain rfl : w3 = w4 := hw4.symm
  refine GL.cons (Step.flt (r := 0) rfl (Op1.of rfl (by first | exact fun _ => rfl | exact fun h => h | exact fun h => bL h | exact fun h => bL (bL h) | exact fun h => bL (bL (bL h)))) (Op1.of rfl (by first | exact fun _ => rfl | exact fun h => h | exact fun h => bL h | exact fun h => bL (bL h) | exact fun h => bL (bL (bL h)))) (by kernel_rfl) rfl ?_)
  refine rn ?_
  refine G.regionM [(0, true), (1, true), (2, true), (3, true), (4, true), (5, true), (6, true), (7, true), (8, true), (9, true), (10, true), (11, true), (12, true), (13, true), (14, true)] (Ext w3) (by kernel_rfl) (by kernel_rfl) rfl mixed (Ext.drew w3) rfl ?_
  have hg1 : (([4607182418800017408, 4611686018427387904, 4613937818241073152] : List Nat).map fC)[1]? = some (fC 4611686018427387904) := rfl
  have hg2 : (([4607182418800017408, 4611686018427387904, 4613937818241073152] : List Nat).map fC)[2]? = some (fC 4613937818241073152) := rfl
  try (refine mm tb ?_); repeat ((first | refine dFa tb ?_ | refine dLd tb ?_ | refine dLa tb ?_ | refine dLen tb ?_ | refine dFd tb ?_ | refine dIa tb 1 ?_); try (refine mm tb ?_))
  refine GM.read (fun w' hS => Step.flt (r := 4607182418800017408) rfl (Op1.of rfl (by first | exact fun _ => rfl | exact fun h => h | exact fun h => bL h | exact fun h => bL (bL h) | exact fun h => bL (bL (bL h)))) (Op1.of rfl (by first | exact fun _ => rfl | exact fun h => h | exact fun h => bL h | exact fun h => bL (bL h) | exact fun h => bL (bL (bL h)))) (by kernel_rfl) rfl ⟨rfl, rfl⟩) rfl rfl ?_
  refine GM.read (fun w' hS => Step.flt (r := 4611686018427387904) rfl (Op1.of rfl (by first | exact fun _ => rfl | exact fun h => h | exact fun h => bL h | exact fun h => bL (bL h) | exact fun h => bL (bL (bL h)))) (Op1.of rfl (by first | exact fun _ => rfl | exact fun h => h | exact fun h => bL h | exact fun h => bL (bL h) | exact fun h => bL (bL (bL h)))) (by kernel_rfl) rfl ⟨rfl, rfl⟩) rfl rfl ?_
  refine rd ?_
  refine dIa tb 2 ?_
  refine rd ?_
  refine GM.read (fun w' hS => Step.flt (r := 0) rfl (Op1.of rfl (by first | exact fun _ => rfl | exact fun h => h | exact fun h => bL h | exact fun h => bL (bL h) | exact fun h => bL (bL (bL h)))) (Op1.of rfl (by first | exact fun _ => rfl | exact fun h => h | exact fun h => bL h | exact fun h => bL (bL h) | exact fun h => bL (bL (bL h)))) (by kernel_rfl) rfl ⟨rfl, rfl⟩) rfl rfl ?_
  refine GM.read (fun w' hS => Step.flt (r := 4611686018427387904) rfl (Op1.of rfl (by first | exact fun _ => rfl | exact fun h => h | exact fun h => bL h | exact fun h => bL (bL h) | exact fun h => bL (bL (bL h)))) (Op1.of rfl (by first | exact fun _ => rfl | exact fun h => h | exact fun h => bL h | exact fun h => bL (bL h) | exact fun h => bL (bL (bL h)))) (by kernel_rfl) rfl ⟨rfl, rfl⟩) rfl rfl ?_
  refine rd ?_
  refine GM.nil ?_
  refine rn ?_
  refine G.ret1 rfl rfl rfl rfl ?_
  exact ⟨rfl, hx3.drew'⟩
end Go.Proofs.Ytbnckhfkkoncbaa
end
section
open Go Go.Vg Go.RowKit Go.Proofs Go.Proofs.Ytbnckhfkkoncbaa
namespace Go.Proofs.Ytbnckhfkkoncbaa

set_option maxHeartbeats 2000000 in
theorem wakes_ok (w : World) : Ret Try.prog 12 ⟨[]⟩ w fun r w' => r = .bool true ∧ Ext w w' := by
  refine ret_of_G Try.func12 rfl Try.ntmps12 rfl ?_
  simp only [argEnv]
  refine rn ?_
  refine sBs' tb (twoS.map smpC) ?_ (hkl := smpLen _)
  intro v1 w1 ho1 hs1 hx1
  refine sCall c10 (over_ok v1 w1 ho1.sli) ?_
  rintro _ w2 ⟨rfl, hx2⟩
  have hx2 := hx1.trans hx2
  refine rn ?_
  refine GL.cons (Step.fcmp (r := true) rfl (Op1.of rfl (by first | exact fun _ => rfl | exact fun h => h | exact fun h => bL h | exact fun h => bL (bL h) | exact fun h => bL (bL (bL h)))) (Op1.of rfl (by first | exact fun _ => rfl | exact fun h => h | exact fun h => bL h | exact fun h => bL (bL h) | exact fun h => bL (bL (bL h)))) (by kernel_rfl) rfl ?_)
  refine rn ?_
  refine GL.cons (Step.on rfl (by simp) ?_)
  refine (Step.buildSlice tb ((([4613937818241073152, 4607182418800017408, 4611686018427387904] : List Nat).map fC)) rfl rfl rfl rfl rfl rfl (by rfl) rfl (by rfl) (by rfl) (by rfl) (fLen _) rfl ?_)
  intro v3 w3 ho3 hs3 hx3
  have hx3 := hx2.trans hx3
  refine GL.cons (Step.on rfl (by simp) (Step.callO rfl rfl (by repeat (first | exact OpL.nil | refine OpL.cons (Op1.of rfl (by first | exact fun _ => rfl | exact fun _ => by simp [cv])) ?_)) c14 rfl (quantile_ok v3 w3 ho3.sli) ?_))
  rintro _ w4 ⟨rfl, hx4⟩
  have hx4 := hx3.trans hx4
  refine rn ?_
  refine GL.cons (Step.fcmp (r := true) rfl (Op1.of rfl (by first | exact fun _ => rfl | exact fun h => h | exact fun h => bL h | exact fun h => bL (bL h) | exact fun h => bL (bL (bL h)))) (Op1.of rfl (by first | exact fun _ => rfl | exact fun h => h | exact fun h => bL h | exact fun h => bL (bL h) | exact fun h => bL (bL (bL h)))) (by kernel_rfl) rfl ?_)
  refine rn ?_
  refine GL.cons (Step.on rfl (by simp) (Step.callO rfl rfl (by repeat (first | exact OpL.nil | refine OpL.cons (Op1.of rfl (by first | exact fun _ => rfl | exact fun _ => by simp [cv])) ?_)) c27 rfl (part_year0 w4) ?_))
  rintro _ w5 ⟨rfl, hx5⟩
  have hx5 := hx4.trans hx5
  refine rn ?_
  refine GL.cons (Step.fcmp (r := true) rfl (Op1.of rfl (by first | exact fun _ => rfl | exact fun h => h | exact fun h => bL h | exact fun h => bL (bL h) | exact fun h => bL (bL (bL h)))) (Op1.of rfl (by first | exact fun _ => rfl | exact fun h => h | exact fun h => bL h | exact fun h => bL (bL h) | exact fun h => bL (bL (bL h)))) (by kernel_rfl) rfl ?_)
  refine rn ?_
  refine G.ret1 rfl rfl rfl rfl ?_
  exact ⟨rfl, hx5⟩
end Go.Proofs.Ytbnckhfkkoncbaa
end
section
namespace Go.Vg
open Go.RowKit Go.WideShapes Go.ChangeShapes

theorem open_sli {H : Type} {enc : TypeId × Value → H} {P : Program} {w : World} {sp : Nat → Bool} {hd : Bool} {t e k b0 : Nat} {α : Type} {v : Value} {d : DataW H} {p : List MemPlace} (dec : α → List Value) (Q : α → Prop)
    (ht : P.underlying t = some (.slice e)) (hc : P.cellsOf e = k) (hel : ∀ n cs x, DataW.trod enc P w 0 sp hd n e cs = some x → ∃ a, cs = dec a ∧ Q a)
    (hval : Value.okWide P w .any b0 t v) (h : DataW.Trod enc P w 0 sp hd t v d p) : ∃ ls : List α, Sli w v k (ls.map dec) ∧ ∀ a ∈ ls, Q a := by
  have hspot : ∀ a l c, v = .slice (some a) l c → a.spot = none := by
    rintro a l c rfl
    simp only [Value.okWide, ht, Cell.okWide, Cell.ok, World.has] at hval
    exact hval.2.2.2.1
  obtain ⟨a0, len, cap, rfl⟩ := okWide_slice ht hval
  obtain ⟨fuel, h⟩ := h
  rcases Go.Deep.open_slice ht h with ⟨h1, _⟩ | ⟨a, len', cap', m, n, D, Pl, h1, hb, hl, hm, hmm, _, hx⟩
  · have h2 : Value.slice a0 len cap = .slice none 0 0 := by simpa [Value.cells] using h1
    exact ⟨[], .inl ⟨h2, rfl⟩, by simp⟩
  · have h2 : Value.slice a0 len cap = .slice (some a) len' cap' := by simpa [Value.cells] using h1
    cases h2
    have hlm : len ≤ m := by rw [hmm]; split <;> omega
    have each : ∀ i, i < len → ∃ x : α, w.cells? 0 (a.add (i * k)) k = some (dec x) ∧ Q x := by
      intro i hi
      obtain ⟨cs, h3, h4⟩ := hx i (by omega)
      rw [hc] at h3
      obtain ⟨x, rfl, hq⟩ := hel n cs _ h4
      exact ⟨x, h3, hq⟩
    have build : ∀ l, l ≤ len → ∃ ls : List α, ls.length = l ∧ (∀ i x, ls[i]? = some x → w.cells? 0 (a.add (i * k)) k = some (dec x) ∧ Q x) := by
      intro l
      induction l with
      | zero => intro _; exact ⟨[], rfl, by simp⟩
      | succ l ih =>
        intro hl'
        obtain ⟨ls, h5, h6⟩ := ih (by omega)
        obtain ⟨x, h7⟩ := each l (by omega)
        refine ⟨ls ++ [x], by simp [h5], fun i y hy => ?_⟩
        by_cases hi : i < ls.length
        · rw [List.getElem?_append_left hi] at hy; exact h6 i y hy
        · have hil : i = l := by
            have := (List.getElem?_eq_some_iff.1 hy).1
            simp at this; omega
          subst hil
          rw [List.getElem?_append_right (by omega), h5, Nat.sub_self] at hy
          cases hy; exact h7
    obtain ⟨ls, h5, h6⟩ := build len (Nat.le_refl _)
    refine ⟨ls, .inr ⟨a, cap, by rw [List.length_map, h5], hspot a len cap rfl, by rw [List.length_map, h5]; exact hl, ?_, ?_, ?_⟩, ?_⟩
    · intro x hx'
      obtain ⟨y, hy, rfl⟩ := List.mem_map.1 hx'
      obtain ⟨i, hi⟩ := List.getElem?_of_mem hy
      exact (World.cells?_some (h6 i y hi).1).2.1
    · intro i x hx' j u hu
      simp only [List.getElem?_map, Option.map_eq_some_iff] at hx'
      obtain ⟨y, hy, rfl⟩ := hx'
      obtain ⟨_, h8, h9⟩ := World.cells?_some (h6 i y hy).1
      have hj : j < k := by have := (List.getElem?_eq_some_iff.1 hu).1; omega
      have := h9 j hj
      rw [hu, Addr.add_add a (hspot a len cap rfl)] at this
      exact this
    · rw [List.length_map, h5]; unfold maxLen at hm; omega
    · intro x hx'
      obtain ⟨i, hi⟩ := List.getElem?_of_mem hx'
      exact (h6 i x hi).2
end Go.Vg
end
section
namespace Go.Vg
open Go.RowKit Go.WideShapes Go.ChangeShapes

/-- a value fits its type; kept folded -/
structure OkW (P : Program) (w : World) (b t : Nat) (v : Value) : Prop where
  ok : Value.okWide P w .any b t v
theorem open_rows {H : Type} {enc : TypeId × Value → H} {P : Program} {w : World} {sp : Nat → Bool} {hd : Bool} {t e k b0 : Nat} {α : Type} {v : Value} {d : DataW H} {p : List MemPlace} (dec : α → List Value) (Q : α → Prop)
    (ht : P.underlying t = some (.slice e)) (hc : P.cellsOf e = k) (hel : ∀ n cs x, DataW.trod enc P w 0 sp hd n e cs = some x → ∃ a, cs = dec a ∧ Q a)
    (hval : OkW P w b0 t v) (h : DataW.Trod enc P w 0 sp hd t v d p) : ∃ ls : List α, Sli w v k (ls.map dec) ∧ ∀ a ∈ ls, Q a := open_sli dec Q ht hc hel hval.ok h
theorem openI {H : Type} {enc : TypeId × Value → H} {P : Program} {w : World} {b : Nat} {sp : Nat → Bool} {hd : Bool} {t : Nat} {k : IntKind} {v : Value} {d : DataW H} {p : List MemPlace}
    (ht : P.underlying t = some (.int k)) (hval : OkW P w b t v) (h : DataW.Trod enc P w 0 sp hd t v d p) : ∃ n : Int, v = .int k n ∧ (Lit.int k n).wf = true := by
  obtain ⟨n, h1, _, _, h2⟩ := open_int ht hval.ok h; exact ⟨n, h1, h2⟩
theorem open_int1 {H : Type} {enc : TypeId × Value → H} {P : Program} {w : World} {b : Nat} {sp : Nat → Bool} {hd : Bool} {t n : Nat} {k : IntKind} {cs : List Value} {x : DataW H × List MemPlace}
    (ht : P.underlying t = some (.int k)) (h : DataW.trod enc P w b sp hd n t cs = some x) : ∃ m : Int, cs = [.int k m] ∧ (Lit.int k m).wf = true := by
  obtain ⟨m, rfl, _, hl⟩ := DataW.trod_int ht h
  exact ⟨m, rfl, hl⟩
theorem trodAll_stays {H : Type} {enc : TypeId × Value → H} {P : Program} (hl : laidOutB P = true) {W W' : World} {sp : Nat → Bool} (hx : Below W.heap.size W W') :
    ∀ {ts : List TypeId} {vs : List Value} {ds : List (DataW H)} {ps : List MemPlace}, (ts.all fun t => P.readableRec t && decide (t < P.types.size)) = true → DataW.TrodAll enc P W 0 (fun _ => true) true ts vs ds ps →
      (∀ p ∈ ps, p.block < W.heap.size) → (∀ p ∈ ps, sp p.block = true) → DataW.TrodAll enc P W' 0 sp true ts vs ds ps
  | [], vs, ds, ps, _, h, _, _ => by
    obtain ⟨rfl, rfl, rfl⟩ := trodAll_nil h
    exact trodAll_mk0
  | t :: ts, vs, ds, ps, ht, h, hlt, hsp => by
    simp only [List.all_cons, Bool.and_eq_true, decide_eq_true_eq] at ht
    obtain ⟨v, vs, d, ds, p, q, rfl, rfl, rfl, h0, h1⟩ := trodAll_cons h
    have h0' := WideElems.Trod_stays (sp' := sp) hl ht.1.1 ht.1.2 h0 (fun x hx' => hx.same (hlt x (by simp [hx']))) (fun x hx' => hsp x (by simp [hx']))
    exact trodAll_cons_mk h0' (trodAll_stays hl hx ht.2 h1 (fun x hx' => hlt x (by simp [hx'])) (fun x hx' => hsp x (by simp [hx'])))

/-- a law's end: true, and every argument reads as it did -/
theorem law_post {H : Type} {enc : TypeId × Value → H} {P : Program} {f : Func} {s : ChangeSpec} {tb : TypeId} {W W' : World} {args : Array Value} {ds gs : List (DataW H)} {before : List MemPlace}
    (hl : laidOutB P = true) (hts : (f.params.toList.all fun t => P.readableRec t && decide (t < P.types.size)) = true) (hr : f.resultTypes = #[tb]) (htb : P.underlying tb = some .bool) (hv : s.vars = [])
    (hW : DataW.Whole enc P f.params.toList s.vars false W args.toList ds gs before)
    (hfn : s.fn H ds = { results := [.lit (.bool true)], args := ds })
    (hx : Below W.heap.size W W') : s.post enc P f false true false false W args (.bool true) W' := by
  have hlt : ∀ p ∈ before, p.block < W.heap.size := fun p hp => hW.lt p hp
  have hW' := hW
  obtain ⟨p, q, hA, hV, rfl, hz, hn⟩ := hW
  rw [hv] at hV
  obtain ⟨rfl, rfl⟩ := trodVars_none hV
  have hfn' : s.fn H (ds ++ []) = { results := [.lit (.bool true)], args := ds } := by rw [List.append_nil]; exact hfn
  have hA' : ∀ sp : Nat → Bool, (∀ x ∈ p ++ [], sp x.block = true) → DataW.TrodAll enc P W' 0 sp true f.params.toList args.toList (s.fn H (ds ++ [])).args p := by
    intro sp hsp
    rw [hfn']
    exact trodAll_stays hl hx hts hA (fun x hx' => hlt x (by simp [hx'])) (fun x hx' => hsp x (by simp [hx']))
  refine ⟨ds, [], p ++ [], [], p, [], hW', ?_, hA' _ (fun x hx' => by simpa using hlt x hx'), ?_, World.keptBut_mono (fun x hx' => ⟨hx', ?_⟩) (hx.frame (· ∈ p ++ [])), fun h => by cases h⟩
  · rw [hfn', hr]
    exact trodAll_cons_mk (shut_bool htb _) trodAll_mk0
  · rw [hv, hfn']; rfl
  · exact .inr (by simpa using hx')
end Go.Vg
end
section
open Go Go.Vg Go.RowKit Go.Proofs Go.Proofs.Ytbnckhfkkoncbaa
namespace Go.Proofs.Ytbnckhfkkoncbaa
open Go.Lib Go.Shelf Go.ChangeShapes Go.WideShapes Go.ChangeAt

theorem own : ownKnob Try.prog.godebug = none := by kernel_rfl
theorem laidOut : laidOutB Try.prog = true := by kernel_rfl
/-- a world -/
noncomputable def laidWorld (os : Os) : World := World.holding Try.prog os ⟨#[], #[], []⟩
theorem laid_met (os : Os) (args : Array Value) : laidMet Try.prog [] ((laidWorld os).forCall (fun _ _ => 0) ⟨#[], args, []⟩).memory := ⟨[], rfl, List.nodup_nil, fun _ _ h => by cases h⟩
end Go.Proofs.Ytbnckhfkkoncbaa
end
section
namespace Go.Nm

def infB : Nat := 2047 * 2 ^ 52
/-- the parts of a float's bits: its number is m times 2 to the k - 1074 -/
def mB (b : Nat) : Nat := if b / 2 ^ 52 = 0 then b else b % 2 ^ 52 + 2 ^ 52
def kB (b : Nat) : Nat := b / 2 ^ 52 - 1
/-- twice the number, in units of the least float; and half a step above -/
def vB (b : Nat) : Nat := 2 * mB b * 2 ^ kB b
def hB (b : Nat) : Nat := (2 * mB b + 1) * 2 ^ kB b
theorem parts_of {K m : Nat} (hm : m < 2 ^ 53) (h : 2 ^ 52 ≤ m ∨ K = 0) : mB (K * 2 ^ 52 + m) = m ∧ kB (K * 2 ^ 52 + m) = K := by
  unfold mB kB
  by_cases h2 : 2 ^ 52 ≤ m
  · have e : K * 2 ^ 52 + m = (K + 1) * 2 ^ 52 + (m - 2 ^ 52) := by rw [Nat.succ_mul]; omega
    have hd : (K * 2 ^ 52 + m) / 2 ^ 52 = K + 1 := by rw [e]; omega
    have hr : (K * 2 ^ 52 + m) % 2 ^ 52 = m - 2 ^ 52 := by rw [e]; omega
    rw [hd, hr, if_neg (by omega)]
    omega
  · obtain rfl := h.resolve_left h2
    have hd : (0 * 2 ^ 52 + m) / 2 ^ 52 = 0 := by omega
    rw [hd, if_pos rfl]
    omega
/-- lo is the greatest float that is no more than X / B -/
structure IsLo (X B lo : Nat) : Prop where
  lt : lo < infB
  le : vB lo * B ≤ X
  up : lo + 1 = infB ∨ X < vB (lo + 1) * B
/-- the scale: the least float's half is 2 to the minus it -/
@[irreducible] def cP : Nat := 1075
end Go.Nm
end
section
namespace Go.Nm

def vL (b : Nat) : List Nat → Nat
  | [] => 0
  | x :: l => x + b * vL b l
/-- digits below the base, the last one not nought -/
structure Nrm (b : Nat) (l : List Nat) : Prop where
  lt : ∀ x ∈ l, x < b
  top : ∀ h : l ≠ [], l.getLast h ≠ 0
theorem vL_app (b : Nat) : ∀ l m : List Nat, vL b (l ++ m) = vL b l + b ^ l.length * vL b m
  | [], m => by simp [vL]
  | x :: l, m => by
    rw [List.cons_append, vL, vL, vL_app b l m, List.length_cons, Nat.pow_succ, Nat.mul_add, Nat.mul_comm (b ^ l.length) b, Nat.mul_assoc, Nat.add_assoc]
theorem vL_snoc (b : Nat) (l : List Nat) (x : Nat) : vL b (l ++ [x]) = vL b l + b ^ l.length * x := by
  rw [vL_app]; simp [vL]
theorem Nrm.nil (b : Nat) : Nrm b [] := ⟨by simp, fun h => absurd rfl h⟩
theorem Nrm.ge {b : Nat} {l : List Nat} (h : Nrm b l) (h0 : l ≠ []) : b ^ (l.length - 1) ≤ vL b l := by
  have e := (List.dropLast_concat_getLast h0).symm
  have ht := h.top h0
  generalize l.getLast h0 = x at e ht
  rw [e, vL_snoc, List.length_append, List.length_singleton, Nat.add_sub_cancel]
  have : b ^ l.dropLast.length * 1 ≤ b ^ l.dropLast.length * x := Nat.mul_le_mul_left _ (by omega)
  omega
theorem Nrm.zero {b : Nat} (hb : 0 < b) {l : List Nat} (h : Nrm b l) : vL b l = 0 ↔ l = [] := by
  constructor
  · intro h0
    apply Decidable.byContradiction
    intro hne
    have := h.ge hne
    have := Nat.pow_pos hb (n := l.length - 1)
    omega
  · rintro rfl; rfl
/-! ### A row times a small number, and a carry -/
end Go.Nm
end
section
namespace Go.Nm

/-! ### The quotient, bit by bit -/
structure DivK (Y B : Nat) (k q r : Nat) : Prop where
  eq : Y = q * B + r
  lt : r < B * 2 ^ k
  dvd : q % 2 ^ k = 0
theorem DivK.start {Y B k : Nat} (h : Y < B * 2 ^ k) : DivK Y B k 0 Y := ⟨by omega, h, Nat.zero_mod _⟩
theorem DivK.one {Y B k q r : Nat} (h : DivK Y B (k + 1) q r) (hc : B * 2 ^ k ≤ r) : DivK Y B k (q + 2 ^ k) (r - B * 2 ^ k) := by
  have hl := h.lt
  rw [Nat.pow_succ, ← Nat.mul_assoc] at hl
  refine ⟨?_, by omega, ?_⟩
  · rw [Nat.add_mul, Nat.mul_comm (2 ^ k) B]
    have := h.eq
    omega
  · have h1 : q % 2 ^ k = 0 := Nat.mod_eq_zero_of_dvd (Nat.dvd_trans ⟨2, by rw [Nat.pow_succ]⟩ (Nat.dvd_of_mod_eq_zero h.dvd))
    rw [Nat.add_mod_right]; exact h1
theorem DivK.zero {Y B k q r : Nat} (h : DivK Y B (k + 1) q r) (hc : r < B * 2 ^ k) : DivK Y B k q r :=
  ⟨h.eq, hc, Nat.mod_eq_zero_of_dvd (Nat.dvd_trans ⟨2, by rw [Nat.pow_succ]⟩ (Nat.dvd_of_mod_eq_zero h.dvd))⟩
theorem DivK.fin {Y B q r : Nat} (h : DivK Y B 0 q r) : q = Y / B ∧ r = Y % B := by
  have hl := h.lt
  rw [Nat.pow_zero, Nat.mul_one] at hl
  have he := h.eq
  have hB : 0 < B := by omega
  constructor
  · rw [he, Nat.mul_comm q B, Nat.mul_add_div hB, Nat.div_eq_of_lt hl, Nat.add_zero]
  · rw [he, Nat.mul_comm q B, Nat.mul_add_mod, Nat.mod_eq_of_lt hl]
end Go.Nm
end
section
namespace Go.Nm

def signed (s : List UInt8) : Bool := s.head? = some 43 || s.head? = some 45
def nanB : Nat := 0x7ff8000000000001
def sgn (neg : Bool) : Nat := if neg then 2 ^ 63 else 0
/-! ### The cut exponents -/
end Go.Nm
end
section
namespace Go.Nm

/-- the search under way -/
structure Srch (X B lo hi : Nat) : Prop where
  lt : lo < hi
  hb : hi ≤ infB
  le : vB lo * B ≤ X
  up : hi = infB ∨ X < vB hi * B
theorem Srch.start {X B : Nat} : Srch X B 0 infB := ⟨by decide, Nat.le_refl _, by unfold vB mB; simp, .inl rfl⟩
theorem Srch.low {X B lo hi mid : Nat} (h : Srch X B lo hi) (h2 : mid < hi) (hc : vB mid * B ≤ X) : Srch X B mid hi := ⟨h2, h.hb, hc, h.up⟩
theorem Srch.high {X B lo hi mid : Nat} (h : Srch X B lo hi) (h1 : lo < mid) (h2 : mid < hi) (hc : ¬ vB mid * B ≤ X) : Srch X B lo mid := ⟨h1, Nat.le_trans (Nat.le_of_lt h2) h.hb, h.le, .inr (by omega)⟩
theorem Srch.fin {X B lo hi : Nat} (h : Srch X B lo hi) (hc : hi ≤ lo + 1) : IsLo X B lo := by
  have := h.lt
  obtain rfl : hi = lo + 1 := by omega
  exact ⟨by have := h.hb; omega, h.le, h.up⟩
end Go.Nm
end
section
namespace Go.Vg
open Go.RowKit Ieee

/-- a datum that is the whole number n -/
def HasInt (d : Datum) (n : Int) : Prop := ∃ s m e, d = .number s m e ∧ ((0 ≤ e ∧ n.natAbs = m * 2 ^ e.toNat) ∨ (e < 0 ∧ m = n.natAbs * 2 ^ (-e).toNat)) ∧ (n ≠ 0 → s = decide (n < 0))
/-- a float that is the whole number n -/
def IsI (b : Nat) (n : Int) : Prop := HasInt (double.read b) n
theorem d_least : double.leastPlace = -1074 := by decide
theorem d_bin : double.binade = 4503599627370496 := by decide
theorem d_inf : double.infRung = 9218868437227405312 := by decide
theorem d_sw : double.signWeight = 9223372036854775808 := by decide
theorem d_frac : double.fractionBits = 52 := rfl
theorem read_word (s : Bool) (r : Nat) (h : r < 9218868437227405312) : double.read (double.word s r) = if r < 4503599627370496 then .number s r (-1074) else .number s (4503599627370496 + r % 4503599627370496) (-1074 + (r / 4503599627370496 - 1 : Nat)) := by
  unfold Format.read Format.word
  rw [d_least, d_bin, d_inf, d_sw]
  cases s with
  | false =>
    have h1 : r / 9223372036854775808 % 2 = 0 := by omega
    have h2 : r % 9223372036854775808 = r := by omega
    simp only [Bool.false_eq_true, if_false, h1, h2]
    split
    · rfl
    · rfl
  | true =>
    have h1 : (9223372036854775808 + r) / 9223372036854775808 % 2 = 1 := by omega
    have h2 : (9223372036854775808 + r) % 9223372036854775808 = r := by omega
    simp only [if_true, h1, h2]
    split
    · rfl
    · rfl
theorem cut_exact (s : Bool) (K d : Nat) (way : Toward) (hd : d ≤ (K * 2 ^ d).log2 + 2) : way.cut s (K * 2 ^ d) d = K := by
  have hp : 0 < 2 ^ d := Nat.two_pow_pos d
  have hg : 1 <<< min d ((K * 2 ^ d).log2 + 2) = 2 ^ d := by rw [Nat.min_eq_left hd, Nat.shiftLeft_eq, Nat.one_mul]
  simp only [Toward.cut, hg, Nat.mul_div_cancel _ hp, Nat.mul_mod_left]
  cases way <;> simp
theorem log2_mul_pow (m k : Nat) (hm : m ≠ 0) : (m * 2 ^ k).log2 = m.log2 + k := by
  have h1 := Nat.log2_self_le hm
  have h2 := Nat.lt_log2_self (n := m)
  have hp : 0 < 2 ^ k := Nat.two_pow_pos k
  refine (Nat.log2_eq_iff (Nat.mul_ne_zero hm (Nat.ne_of_gt hp))).2 ⟨?_, ?_⟩
  · rw [Nat.pow_add]; exact Nat.mul_le_mul_right _ h1
  · rw [show m.log2 + k + 1 = (m.log2 + 1) + k by omega, Nat.pow_add]; exact Nat.mul_lt_mul_of_pos_right h2 hp
theorem near_exact (s : Bool) (mag : Nat) (place : Int) (n : Int) (h : HasInt (.number s mag place) n) (hn : n.natAbs < 9007199254740992) : IsI (double.nearest s mag place) n := by
  obtain ⟨s', m', e', he, hv, hs⟩ := h
  cases he
  unfold IsI Format.nearest
  by_cases h0 : mag = 0
  · rw [if_pos h0, read_word s 0 (by omega), if_pos (by omega)]
    have hn0 : n.natAbs = 0 := by
      rcases hv with ⟨_, h⟩ | ⟨_, h⟩
      · rw [h, h0, Nat.zero_mul]
      · have hp : 0 < 2 ^ (-place).toNat := Nat.two_pow_pos _
        rcases Nat.eq_zero_or_pos n.natAbs with h' | h'
        · exact h'
        · have := Nat.mul_pos h' hp
          omega
    exact ⟨s, 0, -1074, rfl, .inr ⟨by omega, by rw [hn0, Nat.zero_mul]⟩, fun h => by omega⟩
  · rw [if_neg h0, d_least, d_bin, d_inf, d_frac]
    obtain ⟨N, hN⟩ : ∃ N, n.natAbs = N := ⟨_, rfl⟩
    rw [hN] at hv hn
    have hN0 : N ≠ 0 := by
      rintro rfl
      rcases hv with ⟨_, h⟩ | ⟨_, h⟩
      · have := Nat.mul_pos (Nat.pos_of_ne_zero h0) (Nat.two_pow_pos place.toNat); omega
      · rw [Nat.zero_mul] at h; exact h0 h
    obtain ⟨L, hL⟩ : ∃ L, N.log2 = L := ⟨_, rfl⟩
    have hL1 : 2 ^ L ≤ N := by rw [← hL]; exact Nat.log2_self_le hN0
    have hL2 : N < 2 ^ (L + 1) := by rw [← hL]; exact Nat.lt_log2_self
    have hL52 : L ≤ 52 := by
      rcases Nat.lt_or_ge 52 L with h | h
      · have := Nat.pow_le_pow_right (n := 2) (by decide) h
        have e : 2 ^ 53 = 9007199254740992 := by decide
        omega
      · exact h
    have hlog : place + mag.log2 = L := by
      rcases hv with ⟨h, hm⟩ | ⟨h, hm⟩
      · have := log2_mul_pow mag place.toNat h0
        rw [← hm, hL] at this; omega
      · have := log2_mul_pow N (-place).toNat hN0
        rw [← hm, hL] at this; omega
    have hmax : max (place + (mag.log2 : Int) - ((52 : Nat) : Int)) (-1074) = (L : Int) - 52 := by omega
    rw [hmax]
    obtain ⟨K, hK⟩ : ∃ K, K = N * 2 ^ (52 - L) := ⟨_, rfl⟩
    have hKlog : K.log2 = 52 := by rw [hK, log2_mul_pow _ _ hN0, hL]; omega
    have hK0 : K ≠ 0 := by rintro rfl; simp at hKlog
    have hK1 : 4503599627370496 ≤ K := by
      have := Nat.log2_self_le hK0
      rw [hKlog] at this; exact this
    have hK2 : K < 9007199254740992 := by
      have := Nat.lt_log2_self (n := K)
      rw [hKlog] at this; exact this
    have hkept : Toward.even.cut s (mag <<< (place - ((L : Int) - 52)).toNat) (((L : Int) - 52) - place).toNat = K := by
      rw [Nat.shiftLeft_eq]
      rcases Int.lt_or_le place ((L : Int) - 52) with hp | hp
      · -- digits of nought are dropped
        rcases hv with ⟨h, _⟩ | ⟨h, hm⟩
        · omega
        · rw [show (place - ((L : Int) - 52)).toNat = 0 by omega, Nat.pow_zero, Nat.mul_one]
          have e : mag = K * 2 ^ (((L : Int) - 52) - place).toNat := by
            rw [hm, hK, Nat.mul_assoc, ← Nat.pow_add]
            congr 2; omega
          have hlm : mag.log2 = 52 + (((L : Int) - 52) - place).toNat := by rw [e, log2_mul_pow _ _ hK0, hKlog]
          rw [e]
          exact cut_exact s K _ _ (by rw [← e]; omega)
      · rw [show (((L : Int) - 52) - place).toNat = 0 by omega]
        have e : mag * 2 ^ (place - ((L : Int) - 52)).toNat = K := by
          rcases hv with ⟨h, hm⟩ | ⟨h, hm⟩
          · rw [hK, hm, Nat.mul_assoc, ← Nat.pow_add]
            congr 2; omega
          · rw [hK, hm, Nat.mul_assoc, ← Nat.pow_add]
            congr 2; omega
        rw [e]
        have := cut_exact s K 0 .even (by omega)
        simpa using this
    dsimp only
    rw [hkept]
    have hr : (((L : Int) - 52) - -1074).toNat * 4503599627370496 + K < 9218868437227405312 := by
      have : (((L : Int) - 52) - -1074).toNat ≤ 1074 := by omega
      have := Nat.mul_le_mul_right 4503599627370496 this
      omega
    rw [Nat.min_eq_left (Nat.le_of_lt hr), read_word s _ hr]
    obtain ⟨q, hq⟩ : ∃ q, (((L : Int) - 52) - -1074).toNat = q := ⟨_, rfl⟩
    rw [hq]
    have h1 : (q * 4503599627370496 + K) / 4503599627370496 = q + 1 := by omega
    have h2 : (q * 4503599627370496 + K) % 4503599627370496 = K - 4503599627370496 := by omega
    rw [if_neg (by omega), h1, h2]
    refine ⟨s, _, _, rfl, ?_, hs⟩
    rw [hN]
    have e1 : 4503599627370496 + (K - 4503599627370496) = K := by omega
    rw [e1]
    rcases Nat.lt_or_ge L 52 with h | h
    · refine .inr ⟨by omega, ?_⟩
      rw [hK, show (-(-1074 + ((q + 1 - 1 : Nat) : Int))).toNat = 52 - L by omega]
    · refine .inl ⟨by omega, ?_⟩
      have : L = 52 := by omega
      rw [hK, this, show (-1074 + ((q + 1 - 1 : Nat) : Int)).toNat = 0 by omega, Nat.sub_self, Nat.pow_zero, Nat.mul_one, Nat.mul_one]
theorem ofInt_isI (n : Int) (hn : n.natAbs < 9007199254740992) : IsI (floatOfInt .f64 n) n := by
  show IsI (double.nearest (decide (n < 0)) n.natAbs 0) n
  exact near_exact _ _ _ _ ⟨_, _, _, rfl, .inl ⟨Int.le_refl _, by simp⟩, fun _ => rfl⟩ hn
end Go.Vg
end
section
namespace Go.Vg
open Go.RowKit Ieee

theorem cut_zero (s : Bool) (d : Nat) (way : Toward) : way.cut s 0 d = 0 := by
  unfold Toward.cut
  simp only [Nat.zero_div, Nat.zero_mod]
  cases way <;> simp
theorem cut_exact' (s : Bool) (K d : Nat) (way : Toward) : way.cut s (K * 2 ^ d) d = K := by
  by_cases h : K = 0
  · subst h; rw [Nat.zero_mul]; exact cut_zero s d way
  · exact cut_exact s K d way (by rw [log2_mul_pow _ _ h]; omega)
theorem signed_zero (s : Bool) (m : Nat) : signed s m 0 = if s then -(m : Int) else m := by unfold signed; simp
/-- a whole float as an integer -/
theorem toInt_isI {d : Datum} {n : Int} (h : HasInt d n) : d.toInt .zero = some n := by
  obtain ⟨s, m, e, rfl, hv, hs⟩ := h
  unfold Datum.toInt Datum.integral
  have hc : Toward.zero.cut s (m <<< e.toNat) (-e).toNat = n.natAbs := by
    rw [Nat.shiftLeft_eq]
    rcases hv with ⟨h, hm⟩ | ⟨h, hm⟩
    · rw [show (-e).toNat = 0 by omega, hm]
      have := cut_exact' s (m * 2 ^ e.toNat) 0 .zero
      simpa using this
    · rw [show e.toNat = 0 by omega, Nat.pow_zero, Nat.mul_one, hm]
      exact cut_exact' s n.natAbs _ .zero
  simp only [hc, signed_zero]
  congr 1
  by_cases h0 : n = 0
  · subst h0; cases s <;> rfl
  · rw [hs h0]
    by_cases hn : n < 0
    · simp only [hn, decide_true, if_true]; omega
    · simp only [hn, decide_false, Bool.false_eq_true, if_false]; omega
/-- the whole number below -/
def floorI (s : Bool) (m : Nat) (i : Int) : Int := signed s (Toward.down.cut s (m <<< i.toNat) (-i).toNat) 0
theorem floor_cut (s : Bool) (m d : Nat) : signed s (Toward.down.cut s m d) 0 * (2 ^ d : Nat) ≤ signed s m 0 ∧ signed s m 0 < (signed s (Toward.down.cut s m d) 0 + 1) * (2 ^ d : Nat) := by
  have hcut : Toward.down.cut s m d = m / 2 ^ d + (s && m % 2 ^ d != 0).toNat := by
    unfold Toward.cut
    rcases Nat.lt_or_ge (m.log2 + 2) d with h | h
    · rw [Nat.min_eq_right (Nat.le_of_lt h), Nat.shiftLeft_eq, Nat.one_mul]
      have h1 : m < 2 ^ (m.log2 + 2) := Nat.lt_trans (Nat.lt_log2_self) (Nat.pow_lt_pow_right (by decide) (by omega))
      have h2 : m < 2 ^ d := Nat.lt_trans h1 (Nat.pow_lt_pow_right (by decide) h)
      simp only [Nat.div_eq_of_lt h1, Nat.mod_eq_of_lt h1, Nat.div_eq_of_lt h2, Nat.mod_eq_of_lt h2]
    · rw [Nat.min_eq_left h, Nat.shiftLeft_eq, Nat.one_mul]
  have hp : 0 < 2 ^ d := Nat.two_pow_pos d
  generalize 2 ^ d = g at hcut hp
  have hm := Nat.div_add_mod m g
  have hlt := Nat.mod_lt m hp
  obtain ⟨q, hq⟩ : ∃ q, m / g = q := ⟨_, rfl⟩
  obtain ⟨r, hr⟩ : ∃ r, m % g = r := ⟨_, rfl⟩
  rw [hq, hr] at hm hcut
  rw [hr] at hlt
  rw [hcut, signed_zero, signed_zero]
  have hmI : (m : Int) = g * q + r := by omega
  cases s with
  | false =>
    simp only [Bool.false_and, Bool.toNat_false, Nat.add_zero, Bool.false_eq_true, if_false]
    rw [hmI]
    have e1 : (q : Int) * g = g * q := Int.mul_comm _ _
    have e2 : ((q : Int) + 1) * g = g * q + g := by rw [Int.add_mul, Int.one_mul, Int.mul_comm]
    rw [e1, e2]
    omega
  | true =>
    simp only [Bool.true_and, if_true]
    rw [hmI]
    by_cases h0 : r = 0
    · subst h0
      simp only [bne_self_eq_false, Bool.toNat_false, Nat.add_zero]
      have e1 : (-(q : Int)) * g = -(g * q : Int) := by rw [Int.neg_mul, Int.mul_comm]
      have e2 : (-(q : Int) + 1) * g = -(g * q : Int) + g := by rw [Int.add_mul, Int.one_mul, e1]
      rw [e1, e2]
      omega
    · have hb : (r != 0) = true := by simp [h0]
      simp only [hb, Bool.toNat_true]
      have e0 : (((q + 1 : Nat)) : Int) = (q : Int) + 1 := by omega
      have e1 : (-((q + 1 : Nat) : Int)) * g = -(g * q : Int) - g := by rw [e0, Int.neg_add, Int.add_mul, Int.neg_mul, Int.mul_comm, Int.neg_mul, Int.one_mul]; omega
      have e2 : (-((q + 1 : Nat) : Int) + 1) * g = -(g * q : Int) := by rw [Int.add_mul, Int.one_mul, e1]; omega
      rw [e1, e2]
      omega
end Go.Vg
end
section
namespace Go.Vg
open Go.RowKit Ieee

theorem signed_mul (s : Bool) (m k : Nat) : signed s m k = signed s m 0 * (2 ^ k : Nat) := by
  rw [signed_zero]
  unfold signed
  rw [Nat.shiftLeft_eq]
  cases s
  · simp
  · simp [Int.neg_mul]
theorem floor_scale (s : Bool) (m : Nat) (i b : Int) (hb : b ≤ 0) (hbi : b ≤ i) : floorI s m i * (2 ^ (-b).toNat : Nat) ≤ signed s m (i - b).toNat ∧ signed s m (i - b).toNat < (floorI s m i + 1) * (2 ^ (-b).toNat : Nat) := by
  have hp : (0 : Int) < ((2 ^ (-b).toNat : Nat) : Int) := by have := Nat.two_pow_pos (-b).toNat; omega
  rcases Int.lt_or_le i 0 with h | h
  · have h1 := floor_cut s m (-i).toNat
    have hF : floorI s m i = signed s (Toward.down.cut s m (-i).toNat) 0 := by
      unfold floorI
      rw [show i.toNat = 0 by omega, Nat.shiftLeft_zero]
    rw [← hF] at h1
    have he : (2 ^ (-b).toNat : Nat) = 2 ^ (-i).toNat * 2 ^ (i - b).toNat := by rw [← Nat.pow_add]; congr 1; omega
    rw [signed_mul s m (i - b).toNat, he]
    obtain ⟨p, hpp⟩ : ∃ p, (2 ^ (-i).toNat : Nat) = p := ⟨_, rfl⟩
    obtain ⟨q, hqq⟩ : ∃ q, (2 ^ (i - b).toNat : Nat) = q := ⟨_, rfl⟩
    have hq0 : 0 < q := by rw [← hqq]; exact Nat.two_pow_pos _
    rw [hpp] at h1 ⊢
    rw [hqq]
    have e : (((p * q : Nat)) : Int) = (p : Int) * q := by push_cast; rfl
    rw [e, ← Int.mul_assoc, ← Int.mul_assoc]
    exact ⟨Int.mul_le_mul_of_nonneg_right h1.1 (by omega), Int.mul_lt_mul_of_pos_right h1.2 (by omega)⟩
  · have hF : floorI s m i = signed s m i.toNat := by
      unfold floorI
      rw [show (-i).toNat = 0 by omega]
      have := cut_exact' s (m <<< i.toNat) 0 .down
      rw [Nat.pow_zero, Nat.mul_one] at this
      rw [this, signed_zero]
      rfl
    rw [hF, signed_mul s m (i - b).toNat, signed_mul s m i.toNat]
    have he : (2 ^ (i - b).toNat : Nat) = 2 ^ i.toNat * 2 ^ (-b).toNat := by rw [← Nat.pow_add]; congr 1; omega
    rw [he]
    have e : (((2 ^ i.toNat * 2 ^ (-b).toNat : Nat)) : Int) = ((2 ^ i.toNat : Nat) : Int) * ((2 ^ (-b).toNat : Nat) : Int) := by push_cast; rfl
    rw [e, ← Int.mul_assoc, Int.add_mul, Int.one_mul]
    omega
end Go.Vg
end
section
namespace Go.Vg
open Go.RowKit Ieee

theorem isI_mk (s : Bool) (c : Nat) (hn : c < 9007199254740992) : HasInt (.number s c 0) (signed s c 0) := by
  refine ⟨s, c, 0, rfl, .inl ⟨Int.le_refl _, ?_⟩, ?_⟩
  · rw [signed_zero]; cases s <;> simp
  · rw [signed_zero]
    cases s with
    | false =>
      simp only [Bool.false_eq_true, if_false]
      intro _
      exact (decide_eq_false (by omega)).symm
    | true =>
      simp only [if_true]
      intro h
      exact (decide_eq_true (by omega)).symm
theorem f2i_isI {r : Nat} {m : Int} (h : IsI r m) (h1 : -9223372036854775808 ≤ m) (h2 : m ≤ 9223372036854775807) : floatToIntVal .f64 r .i64 = some m := by
  unfold floatToIntVal
  have : (FloatKind.f64.decode r).toInt .zero = some m := toInt_isI h
  rw [this]
  simp only
  have e1 : IntKind.i64.min = -9223372036854775808 := by decide
  have e2 : IntKind.i64.max = 9223372036854775807 := by decide
  rw [if_pos (by rw [e1, e2]; exact ⟨h1, h2⟩)]
end Go.Vg
end
section
namespace Go.Vg
open Go.RowKit Ieee

theorem signed_abs {s : Bool} {c : Nat} {n : Int} (h : n.natAbs = c) (hs : n ≠ 0 → s = decide (n < 0)) : signed s c 0 = n := by
  rw [signed_zero]
  by_cases h0 : n = 0
  · subst h0
    have : c = 0 := by simpa using h.symm
    subst this
    cases s <;> simp
  · have := hs h0
    subst this
    by_cases hn : n < 0
    · simp only [hn, decide_true, if_true]; omega
    · simp only [hn, decide_false, Bool.false_eq_true, if_false]; omega
theorem signed_mulN (s : Bool) (a k : Nat) : signed s (a * k) 0 = signed s a 0 * (k : Int) := by
  rw [signed_zero, signed_zero]
  cases s <;> simp [Int.neg_mul]
theorem val_lo {s : Bool} {m : Nat} {i b n : Int} (h : HasInt (.number s m i) n) (hb : b ≤ 0) (hbi : b ≤ i) : signed s m (i - b).toNat = n * (2 ^ (-b).toNat : Nat) := by
  obtain ⟨s', m', e', he, h1, h2⟩ := h
  cases he
  rw [signed_mul]
  rcases h1 with ⟨h0, h1⟩ | ⟨h0, h1⟩
  · have hv := signed_abs (s := s) h1 h2
    rw [signed_mulN] at hv
    have e1 : (i - b).toNat = i.toNat + (-b).toNat := by omega
    rw [e1, Nat.pow_add, ← hv, Int.natCast_mul, Int.mul_assoc]
  · have hv := signed_abs (s := s) (rfl : n.natAbs = n.natAbs) h2
    rw [h1, signed_mulN, hv]
    have e1 : (-b).toNat = (-i).toNat + (i - b).toNat := by omega
    rw [e1, Nat.pow_add, Int.natCast_mul, Int.mul_assoc]
theorem val_hi {s : Bool} {m : Nat} {i b n : Int} (h : HasInt (.number s m i) n) (hb : 0 < b) (hbi : b ≤ i) : signed s m (i - b).toNat * (2 ^ b.toNat : Nat) = n := by
  obtain ⟨s', m', e', he, h1, h2⟩ := h
  cases he
  rw [signed_mul]
  rcases h1 with ⟨h0, h1⟩ | ⟨h0, h1⟩
  · have hv := signed_abs (s := s) h1 h2
    rw [signed_mulN] at hv
    have e1 : i.toNat = (i - b).toNat + b.toNat := by omega
    rw [e1, Nat.pow_add, Int.natCast_mul] at hv
    rw [Int.mul_assoc]; exact hv
  · omega
theorem sum_int {d e : Datum} {n k : Int} (h1 : HasInt d n) (h2 : HasInt e k) : ∃ s m p, d.sum e = some (.number s m p) ∧ HasInt (.number s m p) (n + k) := by
  obtain ⟨s, m, i, rfl, _⟩ := id h1
  obtain ⟨t, l, j, rfl, _⟩ := id h2
  refine ⟨_, _, _, rfl, ?_⟩
  generalize hT : signed s m (i - min i j).toNat + signed t l (j - min i j).toNat = T
  rcases Int.lt_or_le 0 (min i j) with hb | hb
  · have a1 := val_hi h1 hb (Int.min_le_left _ _)
    have a2 := val_hi h2 hb (Int.min_le_right _ _)
    have hs : T * (2 ^ (min i j).toNat : Nat) = n + k := by rw [← hT, Int.add_mul, a1, a2]
    have hp : (0 : Int) < ((2 ^ (min i j).toNat : Nat) : Int) := by exact_mod_cast Nat.pow_pos (by decide)
    refine ⟨_, _, _, rfl, .inl ⟨Int.le_of_lt hb, ?_⟩, fun h0 => ?_⟩
    · rw [← hs, Int.natAbs_mul, Int.natAbs_natCast]
    · have hT0 : T ≠ 0 := by rintro rfl; apply h0; rw [← hs, Int.zero_mul]
      rw [if_neg hT0, ← hs]
      by_cases hT : T < 0
      · rw [decide_eq_true hT, decide_eq_true (Int.mul_neg_of_neg_of_pos hT hp)]
      · have := Int.mul_nonneg (Int.not_lt.1 hT) (Int.le_of_lt hp)
        rw [decide_eq_false hT, decide_eq_false (by omega)]
  · have a1 := val_lo h1 hb (Int.min_le_left _ _)
    have a2 := val_lo h2 hb (Int.min_le_right _ _)
    have hs : T = (n + k) * (2 ^ (-(min i j)).toNat : Nat) := by rw [← hT, Int.add_mul, a1, a2]
    have hp : (0 : Int) < ((2 ^ (-(min i j)).toNat : Nat) : Int) := by exact_mod_cast Nat.pow_pos (by decide)
    have ha : T.natAbs = (n + k).natAbs * 2 ^ (-(min i j)).toNat := by rw [hs, Int.natAbs_mul, Int.natAbs_natCast]
    refine ⟨_, _, _, rfl, ?_, fun h0 => ?_⟩
    · rcases Int.lt_or_le (min i j) 0 with h | h
      · exact .inr ⟨h, ha⟩
      · have : min i j = 0 := by omega
        rw [this] at ha
        refine .inl ⟨h, ?_⟩
        rw [this, ha]; simp
    · have hT0 : T ≠ 0 := by
        rintro rfl
        rcases Int.mul_eq_zero.1 hs.symm with h | h
        · exact h0 h
        · omega
      rw [if_neg hT0]
      by_cases hn : n + k < 0
      · rw [decide_eq_true hn, hs, decide_eq_true (Int.mul_neg_of_neg_of_pos hn hp)]
      · have := Int.mul_nonneg (Int.not_lt.1 hn) (Int.le_of_lt hp)
        rw [decide_eq_false hn, hs, decide_eq_false (by omega)]
end Go.Vg
end
section
namespace Go.Vg
open Go.RowKit Ieee

theorem cmp_mul {a b c : Int} (hc : 0 < c) : compare (a * c) (b * c) = compare a b := by
  simp only [compare, compareOfLessAndEq]
  have h1 : a * c < b * c ↔ a < b := ⟨fun h => Int.lt_of_mul_lt_mul_right h (Int.le_of_lt hc), fun h => Int.mul_lt_mul_of_pos_right h hc⟩
  have h2 : a * c = b * c ↔ a = b := ⟨fun h => Int.eq_of_mul_eq_mul_right (by omega) h, fun h => by rw [h]⟩
  simp only [h1, h2]
theorem order_int {d e : Datum} {n k : Int} (h1 : HasInt d n) (h2 : HasInt e k) : d.order e = some (compare n k) := by
  obtain ⟨s, m, i, rfl, _⟩ := id h1
  obtain ⟨t, l, j, rfl, _⟩ := id h2
  show some (compare (signed s m (i - min i j).toNat) (signed t l (j - min i j).toNat)) = _
  rcases Int.lt_or_le 0 (min i j) with hb | hb
  · have a1 := val_hi h1 hb (Int.min_le_left _ _)
    have a2 := val_hi h2 hb (Int.min_le_right _ _)
    have hp : (0 : Int) < ((2 ^ (min i j).toNat : Nat) : Int) := by exact_mod_cast Nat.pow_pos (by decide)
    rw [← cmp_mul hp, a1, a2]
  · have a1 := val_lo h1 hb (Int.min_le_left _ _)
    have a2 := val_lo h2 hb (Int.min_le_right _ _)
    have hp : (0 : Int) < ((2 ^ (-(min i j)).toNat : Nat) : Int) := by exact_mod_cast Nat.pow_pos (by decide)
    rw [a1, a2, cmp_mul hp]
end Go.Vg
end
section
namespace Go.Nm
open Go.Vg Ieee

def sg (s : Bool) : Int := if s then -1 else 1
theorem inf_eq : infB = 9218868437227405312 := by decide
theorem word_rung (s : Bool) (R : Nat) : double.word s R = R + sgn s := by
  unfold Format.word sgn
  rw [d_sw]
  cases s <;> simp
  omega
theorem read_rung (s : Bool) {R : Nat} (h : R < infB) : double.read (R + sgn s) = .number s (mB R) ((kB R : Int) - 1074) := by
  rw [inf_eq] at h
  rw [← word_rung, read_word s R h]
  unfold mB kB
  have e : (2 : Nat) ^ 52 = 4503599627370496 := by decide
  rw [e]
  by_cases h0 : R < 4503599627370496
  · rw [if_pos h0, if_pos (by omega), show R / 4503599627370496 - 1 = 0 by omega]
    rfl
  · rw [if_neg h0, if_neg (by omega), Nat.add_comm, Int.add_comm]
    rfl
theorem signed_sg (s : Bool) (m k : Nat) : Ieee.signed s m k = sg s * ((m * 2 ^ k : Nat) : Int) := by
  unfold Ieee.signed sg
  rw [Nat.shiftLeft_eq]
  cases s
  · rw [if_neg (by simp), if_neg (by simp), Int.one_mul]
  · rw [if_pos rfl, if_pos rfl, Int.neg_mul, Int.one_mul]
theorem cmp_lt_iff {x y : Int} : compare x y = .lt ↔ x < y := by
  simp only [compare, compareOfLessAndEq]
  split <;> simp [*]
  split <;> simp
theorem cmp_eq_iff {x y : Int} : compare x y = .eq ↔ x = y := by
  simp only [compare, compareOfLessAndEq]
  split
  · simp; omega
  · split <;> simp [*]
theorem cmp_gt_iff {x y : Int} : compare x y = .gt ↔ y < x := by
  simp only [compare, compareOfLessAndEq]
  split
  · simp; omega
  · split
    · simp; omega
    · simp; omega
theorem self_neq {b : Nat} (h : ∀ s f, double.read b ≠ .nan s f) : fcmpB .neq b b = some false := by
  have : FloatKind.f64.format.order b b = some .eq := by
    show (double.read b).order (double.read b) = _
    cases hr : double.read b with
    | nan s f => exact absurd hr (h s f)
    | infinity s => cases s <;> rfl
    | number s m i =>
      unfold Datum.order
      simp only
      rw [cmp_eq_iff.2 rfl]
  unfold fcmpB
  simp only [this]
  rfl
end Go.Nm
end
section
open Go Go.Vg Go.RowKit Go.Proofs Go.Proofs.Ytbnckhfkkoncbaa
namespace Go.Proofs.Ytbnckhfkkoncbaa

/-- K tells what whole numbers the floats are -/
def Good (K : Nat → Int) (xs : List Nat) : Prop := ∀ x ∈ xs, IsI x (K x)
theorem isI_nn {R : Nat} {n : Int} (h : IsI R n) : fcmpB .neq R R = some false := by
  obtain ⟨s, m, i, h1, _⟩ := h
  exact Go.Nm.self_neq fun t f hr => by rw [h1] at hr; cases hr
theorem ord_I {a b : Nat} {n k : Int} (h1 : IsI a n) (h2 : IsI b k) : FloatKind.f64.format.order a b = some (compare n k) := order_int h1 h2
theorem lss_I {a b : Nat} {n k : Int} (h1 : IsI a n) (h2 : IsI b k) : fcmpB .lss a b = some (decide (n < k)) := by
  unfold fcmpB
  simp only
  rw [ord_I h1 h2]
  congr 1
  rw [Bool.eq_iff_iff, beq_iff_eq, Option.some.injEq, Go.Nm.cmp_lt_iff, decide_eq_true_eq]
theorem gtr_I {a b : Nat} {n k : Int} (h1 : IsI a n) (h2 : IsI b k) : fcmpB .gtr a b = some (decide (k < n)) := by
  unfold fcmpB
  simp only
  rw [ord_I h1 h2]
  congr 1
  rw [Bool.eq_iff_iff, beq_iff_eq, Option.some.injEq, Go.Nm.cmp_gt_iff, decide_eq_true_eq]
theorem cmp_eq (a b : Nat) (w : World) (h : fcmpB .lss a b = some false) (h2 : fcmpB .gtr a b = some false) (ha : fcmpB .neq a a = some false) (hb : fcmpB .neq b b = some false) : Ret Try.prog 50 ⟨[Fl a, Fl b]⟩ w fun v w' => v = .int .i64 0 ∧ Ext w w' := by
  refine ret_of_G Try.func50 rfl Try.ntmps50 rfl ?_
  simp only [argEnv]
  refine rn ?_
  refine GL.cons (Step.fcmp rfl (Op1.of rfl (by first | exact fun _ => rfl | exact fun h => h | exact fun h => bL h | exact fun h => bL (bL h) | exact fun h => bL (bL (bL h)))) (Op1.of rfl (by first | exact fun _ => rfl | exact fun h => h | exact fun h => bL h | exact fun h => bL (bL h) | exact fun h => bL (bL (bL h)))) h rfl ?_)
  refine rn ?_
  refine sCallx c13 (fun hc => isNaN_ok a false w ha) ?_
  intro w1 hx1
  refine rn ?_
  refine GL.cons (Step.off (v := .bool false) rfl (of_decide_eq_true rfl) rfl ?_)
  refine rn ?_
  refine GL.cons (Step.fcmp rfl (Op1.of rfl (by first | exact fun _ => rfl | exact fun h => h | exact fun h => bL h | exact fun h => bL (bL h) | exact fun h => bL (bL (bL h)))) (Op1.of rfl (by first | exact fun _ => rfl | exact fun h => h | exact fun h => bL h | exact fun h => bL (bL h) | exact fun h => bL (bL (bL h)))) h2 rfl ?_)
  refine rn ?_
  refine sCallx c13 (fun hc => isNaN_ok b false w1 hb) ?_
  intro w2 hx2
  refine rn ?_
  refine GL.cons (Step.off (v := .bool false) rfl (of_decide_eq_true rfl) rfl ?_)
  refine rn ?_
  refine G.ret1 rfl rfl rfl rfl ?_
  exact ⟨rfl, hx1.trans hx2⟩
/-- how two numbers stand -/
def cmpI (n k : Int) : Int := if n < k then -1 else if k < n then 1 else 0
theorem cmpI_lt (n k : Int) : cmpI n k < 0 ↔ n < k := by
  unfold cmpI
  split
  · omega
  · split <;> omega
theorem cmpQ_ok (a b : Nat) (n k : Int) (h1 : IsI a n) (h2 : IsI b k) (w : World) : Ret Try.prog 50 ⟨[Fl a, Fl b]⟩ w fun v w' => v = .int .i64 (cmpI n k) ∧ Ext w w' := by
  have hl := lss_I h1 h2
  have hg := gtr_I h1 h2
  unfold cmpI
  by_cases c1 : n < k
  · rw [if_pos c1]
    exact cmp_lt a b w (by rw [hl, decide_eq_true c1])
  · rw [if_neg c1]
    rw [decide_eq_false c1] at hl
    by_cases c2 : k < n
    · rw [if_pos c2]
      exact cmp_gt a b w hl (by rw [hg, decide_eq_true c2]) (isI_nn h1)
    · rw [if_neg c2]
      exact cmp_eq a b w hl (by rw [hg, decide_eq_false c2]) (isI_nn h1) (isI_nn h2)

/-! ### rows turned in place -/
def at_ (xs : List Nat) (i : Nat) : Nat := xs.getD i 0
theorem at_get {xs : List Nat} {i : Nat} (h : i < xs.length) : xs[i]? = some (at_ xs i) := by
  unfold at_
  rw [List.getD_eq_getElem?_getD, List.getElem?_eq_getElem h]; rfl
/-- two neighbours change places -/
def swp (xs : List Nat) (i j : Nat) : List Nat := (xs.set i (at_ xs j)).set j (at_ xs i)
theorem at_swp {xs : List Nat} {i j : Nat} (hi : i < xs.length) (hj : j < xs.length) (p : Nat) : at_ (swp xs i j) p = if p = j then at_ xs i else if p = i then at_ xs j else at_ xs p := by
  unfold at_ swp
  simp only [List.getD_eq_getElem?_getD, List.getElem?_set, List.length_set]
  by_cases h1 : p = j
  · subst h1; simp [hj, at_]
  · rw [if_neg (fun e => h1 e.symm), if_neg h1]
    by_cases h2 : p = i
    · subst h2; simp [hi, at_]
    · rw [if_neg (fun e => h2 e.symm), if_neg h2]
theorem swp_perm {xs : List Nat} {i j : Nat} (hi : i < xs.length) (hj : j < xs.length) : (swp xs i j).Perm xs := by
  unfold swp at_
  simp only [List.getD_eq_getElem?_getD, List.getElem?_eq_getElem hi, List.getElem?_eq_getElem hj, Option.getD_some]
  exact List.set_set_perm hi hj
/-- what the turning of a part keeps -/
structure Trn (a b : Nat) (xs ys : List Nat) : Prop where
  perm : ys.Perm xs
  out : ∀ i, i < a ∨ b ≤ i → at_ ys i = at_ xs i
theorem Trn.len {a b : Nat} {xs ys : List Nat} (h : Trn a b xs ys) : ys.length = xs.length := h.perm.length_eq
theorem Trn.refl (a b : Nat) (xs : List Nat) : Trn a b xs xs := ⟨List.Perm.refl _, fun _ _ => rfl⟩
theorem Trn.trans {a b : Nat} {xs ys zs : List Nat} (h : Trn a b xs ys) (k : Trn a b ys zs) : Trn a b xs zs := ⟨k.perm.trans h.perm, fun i hi => (k.out i hi).trans (h.out i hi)⟩
theorem Trn.mono {a b a' b' : Nat} {xs ys : List Nat} (h : Trn a b xs ys) (ha : a' ≤ a) (hb : b ≤ b') : Trn a' b' xs ys := ⟨h.perm, fun i hi => h.out i (by omega)⟩
theorem Trn.swp {a b i j : Nat} {xs : List Nat} (hi : a ≤ i ∧ i < b) (hj : a ≤ j ∧ j < b) (hb : b ≤ xs.length) : Trn a b xs (swp xs i j) :=
  ⟨swp_perm (by omega) (by omega), fun p hp => by rw [at_swp (by omega) (by omega), if_neg (by omega), if_neg (by omega)]⟩
theorem Good.trn {K : Nat → Int} {a b : Nat} {xs ys : List Nat} (h : Good K xs) (k : Trn a b xs ys) : Good K ys := fun x hx => h x (k.perm.subset hx)
theorem Good.at {K : Nat → Int} {xs : List Nat} (h : Good K xs) {i : Nat} (hi : i < xs.length) : IsI (at_ xs i) (K (at_ xs i)) := h _ (List.mem_of_getElem? (at_get hi))
/-- a part is sorted -/
def Srt (K : Nat → Int) (a b : Nat) (xs : List Nat) : Prop := ∀ i j, a ≤ i → i < j → j < b → K (at_ xs i) ≤ K (at_ xs j)
end Go.Proofs.Ytbnckhfkkoncbaa
end
