/- Shifts to the left, bytes put together, parts of rows of bytes; the same in drawn regions. -/
import Derived.Test.YtfffblopkaandaaDoorV20
namespace Go.Vg
open Go.RowKit

theorem or_bytes (a b : Nat) (ha : a < 4294967296) (hb : b < 256) : bits .or .i64 ((a : Int) * 256) (b : Int) = ((a * 256 + b : Nat) : Int) := by
  have h1 : BitVec.ofInt 64 ((a : Int) * 256) = BitVec.ofNat 64 (a * 256) := by
    have : (a : Int) * 256 = ((a * 256 : Nat) : Int) := by omega
    rw [this, BitVec.ofInt_natCast]
  have h2 : BitVec.ofInt 64 (b : Int) = BitVec.ofNat 64 b := BitVec.ofInt_natCast ..
  have h3 : (BitVec.ofNat 64 (a * 256) ||| BitVec.ofNat 64 b).toNat = a * 256 + b := by
    rw [BitVec.toNat_or, BitVec.toNat_ofNat, BitVec.toNat_ofNat, Nat.mod_eq_of_lt (by omega), Nat.mod_eq_of_lt (by omega)]
    have := Nat.two_pow_add_eq_or_of_lt (i := 8) (b := b) (by omega) a
    have e : 2 ^ 8 * a = a * 256 := by omega
    rw [e] at this; exact this.symm
  show IntKind.i64.wrap ((BitVec.ofInt 64 ((a : Int) * 256) ||| BitVec.ofInt 64 (b : Int)).toNat : Int) = _
  rw [h1, h2, h3]
  exact wrap_i64 (by omega) (by omega)
theorem By.sub {w : World} {v : Value} {l : List UInt8} (h : By w v l) {a b : Nat} (ha : a ≤ b) (hb : b ≤ l.length) : By w (subS v 1 a b) ((l.drop a).take (b - a)) := by
  have := Sli.sub h ha (by rw [bysC_len]; exact hb)
  unfold By bysC at *
  rw [List.map_take, List.map_drop]; exact this
/-- stands for a block, where a row's effect is spoken of -/
def blk (b : Nat) : Value := .slice (some ⟨b, 0, none⟩) 0 0
theorem Grew.ofWr {B b : Nat} {w w' : World} (h : Wr b w w') (hB : B ≤ b) : Grew B (blk b) w w' :=
  ⟨fun _ hb => hb.wr h hB, by rw [h.size]; exact Nat.le_refl _, fun q _ hne => h.block q (fun e => hne (by rw [e]; rfl))⟩

section
variable {X : Cx} {ops : Array Oper} {l : List Oper} {k : List Kt} {e : Env} {w : World} {N : Env → World → Prop} {S : World → Prop} {lb : List (Oper × Bool)} {d : Nat} {c : Option Bool} {ty : TypeId} {pos : String} {af : Array Edge} {g : Option (Nat × Bool)}
theorem Step.shl {xt yt : TypeId} {x y : Operand} {q qy : IntKind} {a r : Int} {n : Nat} (hg : guardE ops e ⟨some d, .binOp .shl xt x y yt, ty, pos, af, g⟩ = some c)
    (hx : Op1 e c x (.int q a)) (hy : Op1 e c y (.int qy n)) (hr : q.wrap (a * 2 ^ n) = r) (hb : n ≤ q.bits) (hn : Nat.blt d X.n = true)
    (h : N ((d, c, .int q r) :: e) w) : Step X ops ⟨some d, .binOp .shl xt x y yt, ty, pos, af, g⟩ e w N :=
  Step.quiet rfl (by simpa [Nat.blt_eq] using hn) hg (fun _ hh => by cases hh) (fun t hf hc => by
    have h1 := shift_shl q qy a n (by omega) (by omega)
    simp only [Int.toNat_natCast, hr] at h1
    simp only [execOp, hx.val hf hc, hy.val hf hc]
    simp [go_sem, h1]) h
theorem sShl {xt yt : TypeId} {x y : Operand} {q qy : IntKind} {a r : Int} {n : Nat} (hr : q.wrap (a * 2 ^ n) = r) (h : GL X ops l k ((d, c, .int q r) :: e) w)
    (hg : guardE ops e ⟨some d, .binOp .shl xt x y yt, ty, pos, af, g⟩ = some c := by exact rfl) (hx : Op1 e c x (.int q a) := by exact Op1.of rfl (by first | exact fun _ => rfl | exact fun h => h)) (hy : Op1 e c y (.int qy n) := by exact Op1.of rfl (by first | exact fun _ => rfl | exact fun h => h)) (hb : n ≤ q.bits := by exact of_decide_eq_true rfl) (hn : Nat.blt d X.n = true := by exact rfl) :
    GL X ops (⟨some d, .binOp .shl xt x y yt, ty, pos, af, g⟩ :: l) k e w := GL.cons (Step.shl hg hx hy hr hb hn h)
theorem dShl {xt yt : TypeId} {x y : Operand} {q qy : IntKind} {a r : Int} {n : Nat} (hr : q.wrap (a * 2 ^ n) = r) (h : GMN X ops S N lb ((d, c, .int q r) :: e) w)
    (hg : guardE ops e ⟨some d, .binOp .shl xt x y yt, ty, pos, af, g⟩ = some c := by exact rfl) (hx : Op1 e c x (.int q a) := by exact Op1.of rfl (by first | exact fun _ => rfl | exact fun h => h)) (hy : Op1 e c y (.int qy n) := by exact Op1.of rfl (by first | exact fun _ => rfl | exact fun h => h)) (hb : n ≤ q.bits := by exact of_decide_eq_true rfl) (hn : Nat.blt d X.n = true := by exact rfl) :
    GMN X ops S N ((⟨some d, .binOp .shl xt x y yt, ty, pos, af, g⟩, true) :: lb) e w := GM.read (fun w' hS => Step.shl hg hx hy hr hb hn ⟨rfl, rfl⟩) rfl hn h
theorem dCu (T : Tb X.P) {x : Operand} {src dst : TypeId} {q : IntKind} {b : UInt8} {sd : TypeDesc} (h : GMN X ops S N lb ((d, c, .int q (b.toNat : Int)) :: e) w)
    (hg : guardE ops e ⟨some d, .convert src dst x, ty, pos, af, g⟩ = some c := by exact rfl) (hx : Op1 e c x (U b) := by exact Op1.of rfl (by first | exact fun _ => rfl | exact fun h => h)) (hs : T.ty src = some sd := by exact rfl) (ht : T.ty dst = some (.int q) := by exact rfl) (hq : bigK q = true := by exact rfl) (hn : Nat.blt d X.n = true := by exact rfl) :
    GMN X ops S N ((⟨some d, .convert src dst x, ty, pos, af, g⟩, true) :: lb) e w := GM.read (fun w' hS => Step.convU T hg hx hs ht hq hn ⟨rfl, rfl⟩) rfl hn h
/-- parts of a row of bytes -/
theorem sBlh (T : Tb X.P) {x i j : Operand} {st et : TypeId} {v z : Value} {by_ : Nat} {m n : Int} {xs : List UInt8} (a b : Nat) (hs : By w v xs)
    (h : GL X ops l k ((d, c, subS v 1 a b) :: e) w) (hg : guardE ops e ⟨some d, .slice st x (some i) (some j) none, ty, pos, af, g⟩ = some c := by exact rfl)
    (hx : Op1 e c x v := by exact Op1.of rfl (by first | exact fun _ => rfl | exact fun h => h)) (hlo : Op1 e c i (.int .i64 m) := by exact Op1.of rfl (by first | exact fun _ => rfl | exact fun h => h)) (hhi : Op1 e c j (.int .i64 n) := by exact Op1.of rfl (by first | exact fun _ => rfl | exact fun h => h))
    (ht : T.ty st = some (.slice et) := by exact rfl) (hz : T.inf et = some (z, 1, by_) := by exact rfl) (hn : Nat.blt d X.n = true := by exact rfl)
    (hk : m = a ∧ n = b ∧ a ≤ b ∧ b ≤ xs.length := by simp only [List.length_cons]; omega) :
    GL X ops (⟨some d, .slice st x (some i) (some j) none, ty, pos, af, g⟩ :: l) k e w := GL.cons (Step.sliceVlh T a b hg hx hlo hhi ht hz (fun _ => ⟨_, hs⟩) (fun _ => by rw [bysC_len]; exact hk) hn h)
theorem sBlo (T : Tb X.P) {x i : Operand} {st et : TypeId} {v z : Value} {by_ : Nat} {m : Int} {xs : List UInt8} (a : Nat) (hs : By w v xs)
    (h : GL X ops l k ((d, c, subS v 1 a xs.length) :: e) w) (hg : guardE ops e ⟨some d, .slice st x (some i) none none, ty, pos, af, g⟩ = some c := by exact rfl)
    (hx : Op1 e c x v := by exact Op1.of rfl (by first | exact fun _ => rfl | exact fun h => h)) (hlo : Op1 e c i (.int .i64 m) := by exact Op1.of rfl (by first | exact fun _ => rfl | exact fun h => h))
    (ht : T.ty st = some (.slice et) := by exact rfl) (hz : T.inf et = some (z, 1, by_) := by exact rfl) (hn : Nat.blt d X.n = true := by exact rfl)
    (hk : m = a ∧ a ≤ xs.length := by simp only [List.length_cons]; omega) :
    GL X ops (⟨some d, .slice st x (some i) none none, ty, pos, af, g⟩ :: l) k e w := GL.cons (Step.sliceVl T a hg hx hlo ht hz (fun _ => ⟨_, hs⟩) (fun _ => by rw [bysC_len]; exact hk) hn (by rw [bysC_len]; exact h))
end
end Go.Vg
