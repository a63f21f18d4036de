/- The laws of the single operations over abstract frames: copies, arithmetic, tests, texts. -/
import Derived.Test.YtfffblopkaandaaDoorV2
namespace Go.Vg

/-- a text as a value -/
def S (l : List UInt8) : Value := .string ⟨⟨l⟩⟩
/-- a byte as a value -/
def U (b : UInt8) : Value := .int .u8 b.toNat

/-- the types and sizes that a walk asks for -/
structure Tb (P : Program) where
  ty : Nat → Option TypeDesc
  ok : ∀ t d, ty t = some d → P.underlying t = some d
  inf : Nat → Option (Value × Nat × Nat)
  iok : ∀ t z s b, inf t = some (z, s, b) → ∃ i, P.info? t = some i ∧ i.zero = some z ∧ i.size = s ∧ i.bytes = b

def Op1 (e : Env) (c : Option Bool) (x : Operand) (v : Value) : Prop := ∃ cx, ev e x = some (cx, v) ∧ (cv c = true → cv cx = true)
theorem Op1.of {e : Env} {c cx : Option Bool} {x : Operand} {v : Value} (h : ev e x = some (cx, v)) (hc : cv c = true → cv cx = true) : Op1 e c x v := ⟨cx, h, hc⟩
theorem Op1.val {n : Nat} {e : Env} {t : Array Value} {ds : List Deferred} {c : Option Bool} {x : Operand} {v : Value} (h : Op1 e c x v) (hf : Fits n e t) (hc : cv c = true) :
    (Act.mk t ds).eval x = v := by
  obtain ⟨cx, h1, h2⟩ := h
  exact hf.ev1 h1 (h2 hc)

def kEq : IntKind → IntKind → Bool
  | .i8, .i8 | .i16, .i16 | .i32, .i32 | .i64, .i64 | .u8, .u8 | .u16, .u16 | .u32, .u32 | .u64, .u64 => true
  | _, _ => false
theorem kEq_eq {a b : IntKind} (h : kEq a b = true) : a = b := by cases a <;> cases b <;> first | rfl | cases h

/-- tests and bits of two values, whatever their type -/
def pb (op : BinOp) (x y : Value) : Option Value :=
  match x, y with
  | .int k a, .int k' b => match kEq k k' with
    | true => match op with
      | .eql => some (.bool (decide (a = b)))
      | .neq => some (.bool (!decide (a = b)))
      | .lss => some (.bool (decide (a < b)))
      | .leq => some (.bool (decide (a ≤ b)))
      | .gtr => some (.bool (decide (b < a)))
      | .geq => some (.bool (decide (b ≤ a)))
      | .and => some (.int k (bits .and k a b))
      | .or => some (.int k (bits .or k a b))
      | .xor => some (.int k (bits .xor k a b))
      | _ => none
    | false => none
  | .string ⟨⟨a⟩⟩, .string ⟨⟨b⟩⟩ => match op with
      | .eql => some (.bool (decide (a = b)))
      | .neq => some (.bool (!decide (a = b)))
      | .lss => some (.bool (Op.bytesLess a b))
      | .leq => some (.bool (Op.bytesLess a b || decide (a = b)))
      | .gtr => some (.bool (!Op.bytesLess a b && !decide (a = b)))
      | .geq => some (.bool (!Op.bytesLess a b))
      | _ => none
  | _, _ => none

theorem mk_toArr (l : List UInt8) : (ByteArray.mk ⟨l⟩) = ByteArray.mk l.toArray := rfl
theorem toL (l : List UInt8) : (ByteArray.mk ⟨l⟩).toList = l := ByteArray.toList_mk l
theorem beqL (a b : List UInt8) : (a == b) = decide (a = b) := by
  by_cases h : a = b <;> simp [h]

theorem pb_run {P : Program} {op : BinOp} {x y v : Value} (h : pb op x y = some v) (t : TypeId) (xo yo : Operand) (w : World) :
    (do eqGuard op t xo yo x y; binOp op t x y : Sem Value).run P w = .ok v w := by
  unfold pb at h
  split at h
  · rename_i k a k' b
    split at h
    · rename_i hk
      obtain rfl := kEq_eq hk
      split at h <;> cases h <;> simp [go_sem] <;> rfl
    · cases h
  · split at h <;> cases h <;> simp [go_sem, beqL]
  · cases h

theorem wrap_i64 {n : Int} (h0 : -9223372036854775808 ≤ n) (h1 : n ≤ 9223372036854775807) : IntKind.i64.wrap n = n := by
  have hb : IntKind.i64.bits = 64 := rfl
  have hs : IntKind.i64.signed = true := rfl
  unfold IntKind.wrap
  simp only [hb, hs, Bool.true_and, decide_eq_true_eq]
  have e1 : (2 : Int) ^ 64 = 18446744073709551616 := by decide
  have e2 : (2 : Int) ^ (64 - 1) = 9223372036854775808 := by decide
  rw [e1, e2]
  split <;> omega
section steps
variable {X : Cx} {ops : Array Oper} {e : Env} {w : World} {N : Env → World → Prop} {d : Nat} {c : Option Bool} {ty : TypeId} {pos : String} {af : Array Edge} {g : Option (Nat × Bool)}

theorem Step.move {x : Operand} {v : Value} (hg : guardE ops e ⟨some d, .move x, ty, pos, af, g⟩ = some c) (hx : Op1 e c x v) (hn : Nat.blt d X.n = true)
    (h : N ((d, c, v) :: e) w) : Step X ops ⟨some d, .move x, ty, pos, af, g⟩ e w N :=
  Step.quiet rfl (by simpa [Nat.blt_eq] using hn) hg (fun _ hh => by cases hh) (fun t hf hc => by
    simp [execOp, hx.val hf hc]) h
theorem Step.assign {x : Operand} {v : Value} (hg : guardE ops e ⟨some d, .assign x, ty, pos, af, g⟩ = some c) (hx : Op1 e c x v) (hn : Nat.blt d X.n = true)
    (h : N ((d, c, v) :: e) w) : Step X ops ⟨some d, .assign x, ty, pos, af, g⟩ e w N :=
  Step.quiet rfl (by simpa [Nat.blt_eq] using hn) hg (fun _ hh => by cases hh) (fun t hf hc => by
    simp [execOp, hx.val hf hc]) h

theorem Step.bin {op : BinOp} {xt yt : TypeId} {x y : Operand} {a b v : Value} (hg : guardE ops e ⟨some d, .binOp op xt x y yt, ty, pos, af, g⟩ = some c)
    (hx : Op1 e c x a) (hy : Op1 e c y b) (hp : pb op a b = some v) (hn : Nat.blt d X.n = true)
    (h : N ((d, c, v) :: e) w) : Step X ops ⟨some d, .binOp op xt x y yt, ty, pos, af, g⟩ e w N :=
  Step.quiet rfl (by simpa [Nat.blt_eq] using hn) hg (fun _ hh => by cases hh) (fun t hf hc => by
    have := pb_run hp xt x y w (P := X.P)
    simp only [execOp, hx.val hf hc, hy.val hf hc]
    rw [Sem.run_bind, this]; rfl) h

/-- sums that stay in their kind -/
theorem Step.arith {op : BinOp} {xt yt : TypeId} {x y : Operand} {k : IntKind} {a b r : Int} (hg : guardE ops e ⟨some d, .binOp op xt x y yt, ty, pos, af, g⟩ = some c)
    (hx : Op1 e c x (.int k a)) (hy : Op1 e c y (.int k b)) (hp : match op with | .add => k.wrap (a + b) = r | .sub => k.wrap (a - b) = r | .mul => k.wrap (a * b) = r | _ => False)
    (hn : Nat.blt d X.n = true) (h : N ((d, c, .int k r) :: e) w) : Step X ops ⟨some d, .binOp op xt x y yt, ty, pos, af, g⟩ e w N :=
  Step.quiet rfl (by simpa [Nat.blt_eq] using hn) hg (fun _ hh => by cases hh) (fun t hf hc => by
    simp only [execOp, hx.val hf hc, hy.val hf hc]
    cases op <;> simp only at hp <;> simp [go_sem, Op.intArith, ← hp]) h

/-- a value's turn by a single operator -/
def pu (op : UnOp) (x : Value) : Option Value :=
  match op, x with
  | .not, .bool b => some (.bool (!b))
  | _, _ => none

theorem Step.un {op : UnOp} {xt : TypeId} {x : Operand} {a v : Value} (hg : guardE ops e ⟨some d, .unOp op xt x, ty, pos, af, g⟩ = some c)
    (hx : Op1 e c x a) (hp : pu op a = some v) (hn : Nat.blt d X.n = true)
    (h : N ((d, c, v) :: e) w) : Step X ops ⟨some d, .unOp op xt x, ty, pos, af, g⟩ e w N :=
  Step.quiet rfl (by simpa [Nat.blt_eq] using hn) hg (fun _ hh => by cases hh) (fun t hf hc => by
    simp only [execOp, hx.val hf hc]
    unfold pu at hp
    split at hp
    · cases hp; simp [go_sem]
    · cases hp) h

/-- '&&' -/
theorem Step.and {p q : Operand} {a b : Bool} {cq : Option Bool} (hg : guardE ops e ⟨some d, .pick p q (.const (.bool false)), ty, pos, af, g⟩ = some c)
    (hp : Op1 e c p (.bool a)) (hq : ev e q = some (cq, .bool b)) (hcq : cv c = true → a = true → cv cq = true) (hn : Nat.blt d X.n = true)
    (h : N ((d, c, .bool (a && b)) :: e) w) : Step X ops ⟨some d, .pick p q (.const (.bool false)), ty, pos, af, g⟩ e w N :=
  Step.quiet rfl (by simpa [Nat.blt_eq] using hn) hg (fun _ hh => by cases hh) (fun t hf hc => by
    have h2 := hf.evg (ds := X.ds) hq
    simp only [execOp, hp.val hf hc]
    cases a with
    | true => unfold gval at h2; rw [hcq hc rfl] at h2; rw [h2]; simp [asBool]
    | false => simp [asBool, Act.eval]) h
/-- '||' -/
theorem Step.or {p q : Operand} {a b : Bool} {cq : Option Bool} (hg : guardE ops e ⟨some d, .pick p (.const (.bool true)) q, ty, pos, af, g⟩ = some c)
    (hp : Op1 e c p (.bool a)) (hq : ev e q = some (cq, .bool b)) (hcq : cv c = true → a = false → cv cq = true) (hn : Nat.blt d X.n = true)
    (h : N ((d, c, .bool (a || b)) :: e) w) : Step X ops ⟨some d, .pick p (.const (.bool true)) q, ty, pos, af, g⟩ e w N :=
  Step.quiet rfl (by simpa [Nat.blt_eq] using hn) hg (fun _ hh => by cases hh) (fun t hf hc => by
    have h2 := hf.evg (ds := X.ds) hq
    simp only [execOp, hp.val hf hc]
    cases a with
    | false => unfold gval at h2; rw [hcq hc rfl] at h2; rw [h2]; simp [asBool]
    | true => simp [asBool, Act.eval]) h

theorem Step.lenS (T : Tb X.P) {x : Operand} {at_ : TypeId} {l : List UInt8}
    (hg : guardE ops e ⟨some d, .call { callee := .builtin .len, args := #[x], argTypes := #[at_] }, ty, pos, af, g⟩ = some c)
    (hx : Op1 e c x (S l)) (ht : T.ty at_ = some .string) (hn : Nat.blt d X.n = true) (h : N ((d, c, .int .i64 l.length) :: e) w) :
    Step X ops ⟨some d, .call { callee := .builtin .len, args := #[x], argTypes := #[at_] }, ty, pos, af, g⟩ e w N :=
  Step.quiet rfl (by simpa [Nat.blt_eq] using hn) hg (fun _ hh => by cases hh) (fun t hf hc => by
    have hr := run_len_string (P := X.P) w at_ ty ⟨⟨l⟩⟩ (T.ok _ _ ht)
    have hv : Act.eval ⟨t, X.ds⟩ x = .string ⟨⟨l⟩⟩ := hx.val hf hc
    simp only [execOp, resolve, invoke, builtin, Sem.run_bind, Sem.run_pure, Result.andThen_ok, List.map_toArray, List.map_cons, List.map_nil, hv, hr]
    rfl) h

theorem Step.indexS (T : Tb X.P) {x i : Operand} {st : TypeId} {l : List UInt8} {m : Int} (k : Nat)
    (hg : guardE ops e ⟨some d, .index st x i, ty, pos, af, g⟩ = some c)
    (hx : Op1 e c x (S l)) (hi : Op1 e c i (.int .i64 m)) (ht : T.ty st = some .string) (hk : cv c = true → m = k ∧ k < l.length) (hn : Nat.blt d X.n = true)
    (h : N ((d, c, U (l.getD k 0)) :: e) w) : Step X ops ⟨some d, .index st x i, ty, pos, af, g⟩ e w N :=
  Step.quiet rfl (by simpa [Nat.blt_eq] using hn) hg (fun _ hh => by cases hh) (fun t hf hc => by
    obtain ⟨rfl, hlt⟩ := hk hc
    have hr := run_index_string (P := X.P) w st ⟨⟨l⟩⟩ .i64 (k : Int) (T.ok _ _ ht)
    have hv : Act.eval ⟨t, X.ds⟩ x = .string ⟨⟨l⟩⟩ := hx.val hf hc
    have hlt' : k < (ByteArray.mk ⟨l⟩).size := hlt
    rw [dif_pos ⟨by omega, by exact_mod_cast hlt'⟩] at hr
    simp only [execOp, hv, hi.val hf hc, Sem.run_bind, hr, Result.andThen_ok, Sem.run_pure]
    have : (ByteArray.mk ⟨l⟩)[(k : Int).toNat]'(by simpa using hlt') = l.getD k 0 := by
      show l[k] = _
      simp [List.getD, hlt]
    rw [this]; rfl) h

theorem Step.sliceS (T : Tb X.P) {x i j : Operand} {st : TypeId} {l : List UInt8} {m n : Int} (a b : Nat)
    (hg : guardE ops e ⟨some d, .slice st x (some i) (some j) none, ty, pos, af, g⟩ = some c)
    (hx : Op1 e c x (S l)) (hi : Op1 e c i (.int .i64 m)) (hj : Op1 e c j (.int .i64 n)) (ht : T.ty st = some .string)
    (hk : cv c = true → m = a ∧ n = b ∧ a ≤ b ∧ b ≤ l.length) (hn : Nat.blt d X.n = true)
    (h : N ((d, c, S ((l.drop a).take (b - a))) :: e) w) : Step X ops ⟨some d, .slice st x (some i) (some j) none, ty, pos, af, g⟩ e w N :=
  Step.quiet rfl (by simpa [Nat.blt_eq] using hn) hg (fun _ hh => by cases hh) (fun t hf hc => by
    obtain ⟨rfl, rfl, h1, h2⟩ := hk hc
    have h2' : b ≤ (ByteArray.mk ⟨l⟩).size := h2
    have hr := run_slice_string (P := X.P) w st ⟨⟨l⟩⟩ .i64 .i64 (a : Int) (b : Int) (T.ok _ _ ht) (by omega) (by omega) (by exact_mod_cast h2')
    have ha := run_sliceAt_string (P := X.P) w st (.string ⟨⟨l⟩⟩) (some (.int .i64 a)) (some (.int .i64 b)) none (T.ok _ _ ht)
    have hv : Act.eval ⟨t, X.ds⟩ x = .string ⟨⟨l⟩⟩ := hx.val hf hc
    simp only [execOp, hv, hi.val hf hc, hj.val hf hc, Option.map_some, Option.map_none, Sem.run_bind, ha, hr, Result.andThen_ok, Sem.run_pure]
    rw [mk_toArr, ByteArray.extract_mk]; rfl) h
theorem Step.sliceSl (T : Tb X.P) {x i : Operand} {st : TypeId} {l : List UInt8} {m : Int} (a : Nat)
    (hg : guardE ops e ⟨some d, .slice st x (some i) none none, ty, pos, af, g⟩ = some c)
    (hx : Op1 e c x (S l)) (hi : Op1 e c i (.int .i64 m)) (ht : T.ty st = some .string)
    (hk : cv c = true → m = a ∧ a ≤ l.length) (hn : Nat.blt d X.n = true)
    (h : N ((d, c, S (l.drop a)) :: e) w) : Step X ops ⟨some d, .slice st x (some i) none none, ty, pos, af, g⟩ e w N :=
  Step.quiet rfl (by simpa [Nat.blt_eq] using hn) hg (fun _ hh => by cases hh) (fun t hf hc => by
    obtain ⟨rfl, h1⟩ := hk hc
    have h2' : a ≤ (ByteArray.mk ⟨l⟩).size := h1
    have hr := run_slice_string_l (P := X.P) w st ⟨⟨l⟩⟩ (T.ok _ _ ht) .i64 (a : Int) (by omega) (by exact_mod_cast h2')
    have ha := run_sliceAt_string (P := X.P) w st (.string ⟨⟨l⟩⟩) (some (.int .i64 a)) none none (T.ok _ _ ht)
    have hv : Act.eval ⟨t, X.ds⟩ x = .string ⟨⟨l⟩⟩ := hx.val hf hc
    simp only [execOp, hv, hi.val hf hc, Option.map_some, Option.map_none, Sem.run_bind, ha, hr, Result.andThen_ok, Sem.run_pure]
    rw [mk_toArr, ByteArray.extract_mk]
    have : (l.drop a).take ((ByteArray.mk l.toArray).size - a) = l.drop a := List.take_of_length_le (by simp [ByteArray.size])
    simp only [Int.toNat_natCast]
    rw [this]; rfl) h
theorem Step.sliceSh (T : Tb X.P) {x j : Operand} {st : TypeId} {l : List UInt8} {n : Int} (b : Nat)
    (hg : guardE ops e ⟨some d, .slice st x none (some j) none, ty, pos, af, g⟩ = some c)
    (hx : Op1 e c x (S l)) (hj : Op1 e c j (.int .i64 n)) (ht : T.ty st = some .string)
    (hk : cv c = true → n = b ∧ b ≤ l.length) (hn : Nat.blt d X.n = true)
    (h : N ((d, c, S (l.take b)) :: e) w) : Step X ops ⟨some d, .slice st x none (some j) none, ty, pos, af, g⟩ e w N :=
  Step.quiet rfl (by simpa [Nat.blt_eq] using hn) hg (fun _ hh => by cases hh) (fun t hf hc => by
    obtain ⟨rfl, h2⟩ := hk hc
    have h2' : b ≤ (ByteArray.mk ⟨l⟩).size := h2
    have hr := run_slice_string_h (P := X.P) w st ⟨⟨l⟩⟩ (T.ok _ _ ht) .i64 (b : Int) (by omega) (by exact_mod_cast h2')
    have ha := run_sliceAt_string (P := X.P) w st (.string ⟨⟨l⟩⟩) none (some (.int .i64 b)) none (T.ok _ _ ht)
    have hv : Act.eval ⟨t, X.ds⟩ x = .string ⟨⟨l⟩⟩ := hx.val hf hc
    simp only [execOp, hv, hj.val hf hc, Option.map_some, Option.map_none, Sem.run_bind, ha, hr, Result.andThen_ok, Sem.run_pure]
    rw [mk_toArr, ByteArray.extract_mk]; rfl) h

theorem Step.cat {x y : Operand} {xt yt : TypeId} {a b : List UInt8}
    (hg : guardE ops e ⟨some d, .binOp .add xt x y yt, ty, pos, af, g⟩ = some c)
    (hx : Op1 e c x (S a)) (hy : Op1 e c y (S b)) (hk : cv c = true → a.length + b.length ≤ 9223372036854775807) (hn : Nat.blt d X.n = true)
    (h : N ((d, c, S (a ++ b)) :: e) w) : Step X ops ⟨some d, .binOp .add xt x y yt, ty, pos, af, g⟩ e w N :=
  Step.quiet rfl (by simpa [Nat.blt_eq] using hn) hg (fun _ hh => by cases hh) (fun t hf hc => by
    have hr := run_string_add_sum (P := X.P) w ⟨⟨a⟩⟩ ⟨⟨b⟩⟩ (hk hc)
    have hv : Act.eval ⟨t, X.ds⟩ x = .string ⟨⟨a⟩⟩ := hx.val hf hc
    have hv' : Act.eval ⟨t, X.ds⟩ y = .string ⟨⟨b⟩⟩ := hy.val hf hc
    simp only [execOp, hv, hv', eqGuard_add, binOp_string_add, Sem.run_bind, Sem.run_pure, Result.andThen_ok, hr]
    rw [mk_toArr, mk_toArr, ByteArray.mk_append_mk]; rfl) h

theorem Step.extract {x : Operand} {i : Nat} {l : List Value} {v : Value}
    (hg : guardE ops e ⟨some d, .extract x i, ty, pos, af, g⟩ = some c) (hx : Op1 e c x (.tuple ⟨l⟩)) (hv : l[i]? = some v) (hn : Nat.blt d X.n = true)
    (h : N ((d, c, v) :: e) w) : Step X ops ⟨some d, .extract x i, ty, pos, af, g⟩ e w N :=
  Step.quiet rfl (by simpa [Nat.blt_eq] using hn) hg (fun _ hh => by cases hh) (fun t hf hc => by
    have : (Array.mk l)[i]? = some v := by simpa using hv
    simp only [execOp, hx.val hf hc, Instr.extract, this, Sem.run_bind, Sem.run_pure, Result.andThen_ok]) h

theorem Step.nilCheck {x : Operand} {a : Addr}
    (hg : guardE ops e ⟨some d, .nilCheck x, ty, pos, af, g⟩ = some c) (hx : Op1 e c x (.pointer (some a))) (hn : Nat.blt d X.n = true)
    (h : N ((d, c, .pointer (some a)) :: e) w) : Step X ops ⟨some d, .nilCheck x, ty, pos, af, g⟩ e w N :=
  Step.quiet rfl (by simpa [Nat.blt_eq] using hn) hg (fun _ hh => by cases hh) (fun t hf hc => by
    simp only [execOp, hx.val hf hc, Sem.run_pure]) h

/-- whole numbers from one kind to another -/
theorem Step.convI (T : Tb X.P) {x : Operand} {src dst : TypeId} {k k' : IntKind} {m r : Int} {sd : TypeDesc}
    (hg : guardE ops e ⟨some d, .convert src dst x, ty, pos, af, g⟩ = some c) (hx : Op1 e c x (.int k m)) (hs : T.ty src = some sd) (ht : T.ty dst = some (.int k'))
    (hr : k'.wrap m = r) (hn : Nat.blt d X.n = true)
    (h : N ((d, c, .int k' r) :: e) w) : Step X ops ⟨some d, .convert src dst x, ty, pos, af, g⟩ e w N :=
  Step.quiet rfl (by simpa [Nat.blt_eq] using hn) hg (fun _ hh => by cases hh) (fun t hf hc => by
    have hk : X.P.intKind dst = k' := by simp [Program.intKind, T.ok _ _ ht]
    have := run_convert_int (P := X.P) w src dst k m (by simp [T.ok _ _ hs]) (by rw [hk]; exact T.ok _ _ ht)
    rw [hk, hr] at this
    simp only [execOp, hx.val hf hc, Sem.run_bind, this, Result.andThen_ok, Sem.run_pure]) h
end steps
end Go.Vg
