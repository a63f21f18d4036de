/- Bytes: rows of bytes of one's own, texts made of them, whole numbers of other kinds, rows of a fixed length. -/
import Derived.Test.YtfffblopkaandaaDoorV17
import Derived.Lib.AppendStr
import Derived.Laws.BytesArg
import Derived.Laws.IdiomStrings
namespace Go.Vg
open Go.RowKit

/-- bytes as a row's elements -/
def bysC (l : List UInt8) : List (List Value) := l.map fun b => [U b]
theorem bysC_len (l : List UInt8) : (bysC l).length = l.length := by simp [bysC]
theorem bysC_app (a b : List UInt8) : bysC (a ++ b) = bysC a ++ bysC b := by simp [bysC]
theorem bysC_one (l : List UInt8) : ∀ y ∈ bysC l, ∀ c ∈ y, c.oneCell' = true := by
  intro y hy c hc
  obtain ⟨b, _, rfl⟩ := List.mem_map.1 hy
  simp only [List.mem_cons, List.not_mem_nil, or_false] at hc
  subst hc; rfl
theorem bysC_get {l : List UInt8} {i : Nat} (h : i < l.length) : (bysC l)[i]? = some [U (l.getD i 0)] := by
  simp [bysC, List.getD, h]
theorem bysC_flat (l : List UInt8) : (bysC l).flatten = l.map U := by
  induction l with
  | nil => rfl
  | cons a r ih =>
    show U a :: (bysC r).flatten = U a :: r.map U
    rw [ih]
theorem bysC_k (l : List UInt8) : ∀ x ∈ bysC l, x.length = 1 := by
  intro y hy
  obtain ⟨b, _, rfl⟩ := List.mem_map.1 hy
  rfl
/-- a row of bytes -/
abbrev By (w : World) (v : Value) (l : List UInt8) : Prop := Sli w v 1 (bysC l)

theorem Sli.nU {w : World} {u : Value} {k : Nat} {xs : List (List Value)} (h : Sli w u k xs) : ∀ c, u ≠ U c := by
  intro c e
  obtain ⟨a, cap, h, _⟩ := h.len
  rw [e] at h; cases h
/-- a row of bytes lies in no box that holds something else -/
theorem Owns.neB {w : World} {B b : Nat} {v u : Value} {et : Nat} {xs : List UInt8} (h : Owns w B v et 1 (bysC xs)) (hx : xs ≠ []) (hb : Bx w b [u]) (hu : ∀ c, u ≠ U c) : some b ≠ v.ownBlock := by
  intro e
  rcases h.1.2 with ⟨rfl, _⟩ | ⟨g, cap, cur, rfl, _, hg, _, _, _, ht⟩
  · simp [Value.ownBlock] at e
  · simp only [Value.ownBlock, Option.some.injEq] at e
    subst e
    obtain ⟨t, hb⟩ := hb
    rw [hg] at hb
    cases hb
    rw [bysC_flat, bysC_len] at ht
    cases xs with
    | nil => exact hx rfl
    | cons a r =>
      simp only [List.map_cons, List.length_cons, Nat.mul_one, List.take_succ_cons] at ht
      exact hu a (List.cons.inj ht).1

theorem Owns.wr2 {w w' : World} {b B : Nat} {v : Value} {et k : Nat} {xs : List (List Value)} (h : Owns w B v et k xs) (hx : Wr b w w') (hb : some b ≠ v.ownBlock) : Owns w' B v et k xs := by
  obtain ⟨⟨hl, h⟩, hk⟩ := h
  refine ⟨⟨hl, ?_⟩, hk⟩
  rcases h with h | ⟨g, cap, cur, h1, h2, h3, h4⟩
  · exact .inl h
  · refine .inr ⟨g, cap, cur, h1, h2, ?_, h4⟩
    rw [hx.block g (fun e => hb (by rw [h1, e]; rfl))]; exact h3
theorem Df.neO {r : Nat} {w : World} {B : Nat} {v : Value} {et k : Nat} {xs : List (List Value)} (h : Df r w) (ho : Owns w B v et k xs) : some r ≠ v.ownBlock := by
  intro e
  rcases ho.1.2 with ⟨rfl, _⟩ | ⟨g, cap, cur, rfl, _, hg, _⟩
  · simp [Value.ownBlock] at e
  · simp only [Value.ownBlock, Option.some.injEq] at e
    subst e
    unfold Df at h
    rw [h] at hg; cases hg
theorem wrap_u64 {n : Int} (h0 : 0 ≤ n) (h1 : n ≤ 18446744073709551615) : IntKind.u64.wrap n = n := by
  have hb : IntKind.u64.bits = 64 := rfl
  have hs : IntKind.u64.signed = false := rfl
  unfold IntKind.wrap
  simp only [hb, hs, Bool.false_and]
  have e1 : (2 : Int) ^ 64 = 18446744073709551616 := by decide
  rw [e1]
  simp only [Bool.false_eq_true, if_false]
  omega
theorem wrap_u8 (n : Int) : IntKind.u8.wrap n = n % 256 := by
  have hb : IntKind.u8.bits = 8 := rfl
  have hs : IntKind.u8.signed = false := rfl
  unfold IntKind.wrap
  simp only [hb, hs, Bool.false_and]
  have e1 : (2 : Int) ^ 8 = 256 := by decide
  rw [e1]
  simp
def bigK : IntKind → Bool
  | .i64 => true
  | .u64 => true
  | _ => false
/-- a whole number's lowest byte -/
def byI (n : Int) : UInt8 := UInt8.ofNat (n % 256).toNat
theorem byI_int (n : Int) : ((byI n).toNat : Int) = n % 256 := by
  have h : (n % 256).toNat < 256 := by omega
  unfold byI
  rw [UInt8.toNat_ofNat_of_lt' h]; omega
theorem byI_u (n : Int) : Value.int .u8 (IntKind.u8.wrap n) = U (byI n) := by rw [wrap_u8, ← byI_int]; rfl

section
variable {X : Cx} {ops : Array Oper} {l : List Oper} {k : List Kt} {e : Env} {w : World} {N : Env → World → Prop} {d : Nat} {c : Option Bool} {ty : TypeId} {pos : String} {af : Array Edge} {g : Option (Nat × Bool)}

/-- to a byte -/
theorem Step.convB (T : Tb X.P) {x : Operand} {src dst : TypeId} {q : IntKind} {m : Int} {sd : TypeDesc}
    (hg : guardE ops e ⟨some d, .convert src dst x, ty, pos, af, g⟩ = some c) (hx : Op1 e c x (.int q m)) (hs : T.ty src = some sd) (ht : T.ty dst = some (.int .u8)) (hn : Nat.blt d X.n = true)
    (h : N ((d, c, U (byI m)) :: e) w) : Step X ops ⟨some d, .convert src dst x, ty, pos, af, g⟩ e w N :=
  Step.convI T hg hx hs ht rfl hn (by rw [byI_u]; exact h)
/-- a byte to a greater kind -/
theorem Step.convU (T : Tb X.P) {x : Operand} {src dst : TypeId} {q : IntKind} {b : UInt8} {sd : TypeDesc}
    (hg : guardE ops e ⟨some d, .convert src dst x, ty, pos, af, g⟩ = some c) (hx : Op1 e c x (U b)) (hs : T.ty src = some sd) (ht : T.ty dst = some (.int q)) (hq : bigK q = true) (hn : Nat.blt d X.n = true)
    (h : N ((d, c, .int q (b.toNat : Int)) :: e) w) : Step X ops ⟨some d, .convert src dst x, ty, pos, af, g⟩ e w N := by
  have hb := b.toNat_lt
  refine Step.convI T hg hx hs ht ?_ hn h
  cases q <;> first | exact wrap_i64 (by omega) (by omega) | exact wrap_u64 (by omega) (by omega) | cases hq
/-- shifted to the right by a fixed number -/
theorem Step.shr {xt yt : TypeId} {x y : Operand} {q qy : IntKind} {a r : Int} {n : Nat} (hg : guardE ops e ⟨some d, .binOp .shr xt x y yt, ty, pos, af, g⟩ = some c)
    (hx : Op1 e c x (.int q a)) (hy : Op1 e c y (.int qy n)) (hr : a / 2 ^ n = r) (hb : n ≤ q.bits) (hn : Nat.blt d X.n = true)
    (h : N ((d, c, .int q r) :: e) w) : Step X ops ⟨some d, .binOp .shr xt x y yt, ty, pos, af, g⟩ e w N :=
  Step.quiet rfl (by simpa [Nat.blt_eq] using hn) hg (fun _ hh => by cases hh) (fun t hf hc => by
    have h1 := shift_shr q qy a n (by omega) (by omega)
    simp only [Int.toNat_natCast, hr] at h1
    simp only [execOp, hx.val hf hc, hy.val hf hc]
    simp [go_sem, h1]) h
/-- an element of an array value -/
theorem Step.indexA (T : Tb X.P) {x i : Operand} {st et : TypeId} {n : Nat} {us : List Value} {u z : Value} {ed : TypeDesc} {by_ : Nat} {m : Int} (j : Nat)
    (hg : guardE ops e ⟨some d, .index st x i, ty, pos, af, g⟩ = some c)
    (hx : Op1 e c x (.agg ⟨us⟩)) (hi : Op1 e c i (.int .i64 m)) (ht : T.ty st = some (.array n et)) (he : T.ty et = some ed) (ha : aggT ed = false) (hz : T.inf et = some (z, 1, by_))
    (hj : cv c = true → m = j ∧ j < n ∧ us[j]? = some u) (hn : Nat.blt d X.n = true)
    (h : N ((d, c, u) :: e) w) : Step X ops ⟨some d, .index st x i, ty, pos, af, g⟩ e w N :=
  Step.quiet rfl (by simpa [Nat.blt_eq] using hn) hg (fun _ hh => by cases hh) (fun t hf hc => by
    obtain ⟨rfl, h1, h2⟩ := hj hc
    simp only [execOp, hx.val hf hc, hi.val hf hc]
    simp [Instr.index, asIntOf, run_underlying (T.ok _ _ ht), h1, run_sizeOf hz, part, run_isAgg (T.ok _ _ he), ha, h2]) h

/-- a text behind a row of bytes of one's own -/
theorem Step.appendS (T : Tb X.P) {x y : Operand} {t u et : TypeId} {v z : Value} {B : Nat} {xs s : List UInt8}
    (hg : guardE ops e ⟨some d, .call { callee := .builtin .append, args := #[x, y], argTypes := #[t, u] }, ty, pos, af, g⟩ = some none)
    (hx : Op1 e none x v) (hy : Op1 e none y (S s)) (ht : T.ty t = some (.slice et)) (hu : T.ty u = some .string) (hi : T.inf et = some (z, 1, 1)) (hz : z = .int .u8 0)
    (hv : Owns w B v et 1 (bysC xs)) (hl : xs.length + s.length ≤ 140737488355328) (hB : B ≤ w.heap.size) (hn : Nat.blt d X.n = true)
    (h : ∀ v' w', Owns w' B v' et 1 (bysC (xs ++ s)) → Grew B v w w' → N ((d, none, v') :: e) w') :
    Step X ops ⟨some d, .call { callee := .builtin .append, args := #[x, y], argTypes := #[t, u] }, ty, pos, af, g⟩ e w N := by
  obtain ⟨i, hi1, hi2, hi3, hi4⟩ := T.iok _ _ _ _ hi
  subst hz
  have hT := T.ok _ _ ht
  have hU := T.ok _ _ hu
  have hlen := hv.2.2
  rw [bysC_len] at hlen
  have hv1 := hv.1
  rw [bysC_len] at hv1
  obtain ⟨v', w', hr, h2, h3, _⟩ := Lib.run_append_own_string (P := X.P) w B t u ty et i hT hU hi1 hi2 hi3 hi4 v xs.length (bysC xs).flatten hv1 ⟨⟨s⟩⟩
    (by unfold maxLen; show xs.length + s.length ≤ _; omega) (by show xs.length + s.length ≤ _; omega) hB
  have hst : Lib.strCells ⟨⟨s⟩⟩ = s.map U := rfl
  rw [hst, bysC_flat] at h2
  have hown : Owns w' B v' et 1 (bysC (xs ++ s)) := by
    refine ⟨?_, ?_, by rw [bysC_len, List.length_append]; exact hl⟩
    · rw [bysC_len, bysC_flat, List.map_append, List.length_append]; exact h2
    · intro y hy
      obtain ⟨b, _, rfl⟩ := List.mem_map.1 hy
      rfl
  refine Step.eff (v := v') (w' := w') rfl (by simpa [Nat.blt_eq] using hn) hg (fun _ hh => by cases hh) (fun t' hf => run_builtin2 (hx.val hf rfl) (hy.val hf rfl) fun cs => ?_)
      (h v' w' hown ⟨fun w0 hb0 => hb0.grown h3 hB (fun k hk => by
        rcases hv.1.2 with ⟨rfl, _⟩ | ⟨g, cap, cur, rfl, hBg, _⟩
        · simp [Value.ownBlock] at hk
        · simp [Value.ownBlock] at hk; omega), h3.size, h3.block⟩)
  unfold S
  simp only [builtin, Sem.run_bind, hr, Result.andThen_ok, Sem.run_pure]

/-- a text of a row of bytes -/
theorem Step.bytesS (T : Tb X.P) {x : Operand} {src dst et : TypeId} {v : Value} {xs : List UInt8}
    (hg : guardE ops e ⟨some d, .convert src dst x, ty, pos, af, g⟩ = some c) (hx : Op1 e c x v) (hs : T.ty src = some (.slice et)) (he : T.ty et = some (.int .u8)) (ht : T.ty dst = some .string)
    (hv : cv c = true → By w v xs) (hn : Nat.blt d X.n = true) (h : N ((d, c, S xs) :: e) w) : Step X ops ⟨some d, .convert src dst x, ty, pos, af, g⟩ e w N :=
  Step.quiet rfl (by simpa [Nat.blt_eq] using hn) hg (fun _ hh => by cases hh) (fun t hf hc => by
    have hr : (convert src dst v).run X.P w = .ok (S xs) w := by
      rcases hv hc with ⟨rfl, h0⟩ | ⟨a, cap, rfl, hsp, hcap, hl, hcell, hb⟩
      · have : xs = [] := by simpa [bysC] using h0
        subst this
        rw [run_convert_bytes_nil w src et (T.ok _ _ hs) (T.ok _ _ he) 0 0 dst (T.ok _ _ ht)]
        rfl
      · rw [bysC_len]
        have := run_convert_bytes_back w src dst et a cap xs (T.ok _ _ hs) (T.ok _ _ he) (T.ok _ _ ht) (fun j hj => by
          have := hcell j _ (bysC_get hj) 0 _ rfl
          rw [Nat.mul_one, Nat.add_zero] at this
          rw [this]
          simp [U, List.getD, hj])
        rw [this]; rfl
    simp only [execOp, hx.val hf hc, Sem.run_bind, hr, Result.andThen_ok, Sem.run_pure]) h

/-- an array value -/
theorem Step.buildA (T : Tb X.P) {t k q by1 by2 m et : Nat} {z z2 : Value} {zs us : List Value} {parts : Array (Nat × Operand)} {lo : List (Nat × Operand)} {vs : List (Nat × Value)}
    (hg : guardE ops e ⟨some d, .build t parts, ty, pos, af, g⟩ = some none)
    (hp : parts = ⟨lo⟩) (hvs : evps e lo = some vs) (ht : T.ty t = some (.array m et)) (hi : T.inf t = some (z, k, by1)) (hi2 : T.inf et = some (z2, q, by2)) (hz : z.cells = ⟨zs⟩)
    (hfill : Instr.fill (fun i => some (i * q, q)) ⟨zs⟩ vs = some ⟨us⟩) (hn : Nat.blt d X.n = true)
    (h : N ((d, none, .agg ⟨us⟩) :: e) w) : Step X ops ⟨some d, .build t parts, ty, pos, af, g⟩ e w N := by
  obtain ⟨i, hi1, hi2', hi3, hi4⟩ := T.iok _ _ _ _ hi
  have hT := T.ok _ _ ht
  have hz' : (zeroValue t).run X.P w = .ok z w := by simp [zeroValue, typeInfo, hi1, hi2']
  refine Step.quiet rfl (by simpa [Nat.blt_eq] using hn) hg (fun _ hh => by cases hh) (fun t' hf _ => ?_) h
  have h1 := evps_map (ds := X.ds) hf hvs
  subst hp
  have h2 : (Array.mk lo).map (fun x : Nat × Operand => match x with | (i, x) => (i, (Act.mk t' X.ds).eval x)) = ⟨vs⟩ := by
    rw [show (fun x : Nat × Operand => match x with | (i, x) => (i, (Act.mk t' X.ds).eval x)) = (fun p => (p.1, (Act.mk t' X.ds).eval p.2)) from rfl]
    simp [h1]
  simp only [execOp, Instr.build, h2, Sem.run_bind, run_underlying hT, Result.andThen_ok, hz', hz, run_sizeOf hi2, hfill, Sem.run_pure]
theorem sBa (T : Tb X.P) {t k' q by1 by2 m et : Nat} {z z2 : Value} {zs us : List Value} {parts : Array (Nat × Operand)} {lo : List (Nat × Operand)} {vs : List (Nat × Value)}
    (h : GL X ops l k ((d, none, .agg ⟨us⟩) :: e) w) (hg : guardE ops e ⟨some d, .build t parts, ty, pos, af, g⟩ = some none := by exact rfl)
    (hp : parts = ⟨lo⟩ := by exact rfl) (hvs : evps e lo = some vs := by exact rfl) (ht : T.ty t = some (.array m et) := by exact rfl) (hi : T.inf t = some (z, k', by1) := by exact rfl) (hi2 : T.inf et = some (z2, q, by2) := by exact rfl) (hz : z.cells = ⟨zs⟩ := by exact rfl)
    (hfill : Instr.fill (fun i => some (i * q, q)) ⟨zs⟩ vs = some ⟨us⟩ := by exact rfl) (hn : Nat.blt d X.n = true := by exact rfl) :
    GL X ops (⟨some d, .build t parts, ty, pos, af, g⟩ :: l) k e w := GL.cons (Step.buildA T hg hp hvs ht hi hi2 hz hfill hn h)

/-- sums of any kind, as they are wrapped -/
theorem sAr {op : BinOp} {xt yt : TypeId} {x y : Operand} {q : IntKind} {a b r : Int} (h : GL X ops l k ((d, c, .int q r) :: e) w)
    (hg : guardE ops e ⟨some d, .binOp op xt x y yt, ty, pos, af, g⟩ = some c := by exact rfl) (hx : Op1 e c x (.int q a) := by exact Op1.of rfl (by first | exact fun _ => rfl | exact fun h => h)) (hy : Op1 e c y (.int q b) := by exact Op1.of rfl (by first | exact fun _ => rfl | exact fun h => h))
    (hp : match op with | .add => q.wrap (a + b) = r | .sub => q.wrap (a - b) = r | .mul => q.wrap (a * b) = r | _ => False := by exact rfl) (hn : Nat.blt d X.n = true := by exact rfl) :
    GL X ops (⟨some d, .binOp op xt x y yt, ty, pos, af, g⟩ :: l) k e w := GL.cons (Step.arith hg hx hy hp hn h)
/-- a call that computes and turns nothing -/
theorem Step.callQ {f : FuncId} {args : Array Operand} {ats : Array TypeId} {lo : List Operand} {vs : List Value} {v : Value}
    (hg : guardE ops e ⟨some d, .call { callee := .value (.func f), args := args, argTypes := ats }, ty, pos, af, g⟩ = some c)
    (ha : args = ⟨lo⟩) (hvs : OpL e c lo vs) (hf : Callable X.P f) (hn : Nat.blt d X.n = true) (hc : cv c = true → Ret X.P f ⟨vs⟩ w fun r w' => r = v ∧ w' = w)
    (h : N ((d, c, v) :: e) w) : Step X ops ⟨some d, .call { callee := .value (.func f), args := args, argTypes := ats }, ty, pos, af, g⟩ e w N := by
  intro t K Q hft hK
  rw [guardE_wanted hft hg]
  cases hcv : cv c with
  | false =>
    rw [if_neg (by simp)]
    have := hK _ _ _ h (hft.put (by simpa [Nat.blt_eq] using hn) c v)
    simp only [gval, hcv] at this
    exact this
  | true =>
    rw [if_pos rfl]
    refine ⟨fun _ _ => trivial, ?_⟩
    rw [Oper.semAt_eq _ _ _ (fun _ hh => by cases hh)]
    have h1 := hvs.map (ds := X.ds) hft hcv
    subst ha
    have h2 : (Array.mk lo).map (Act.mk t X.ds).eval = ⟨vs⟩ := by simp [h1]
    have hr : (execOp (Act.mk t X.ds).eval ⟨some d, .call { callee := .value (.func f), args := ⟨lo⟩, argTypes := ats }, ty, pos, af, g⟩).run X.P w = .ok (.enter f ⟨vs⟩) w := by
      simp only [execOp, resolve, h2, Act.eval, Deferred.ofValue, Sem.run_bind, Sem.run_pure, Result.andThen_ok, invoke, Array.empty_append, Array.append_empty, run_callFunc hf]
    show Oper.uponIn _ _ _ _ _ _ _ ((execOp (Act.mk t X.ds).eval _).run X.P w)
    rw [hr]
    refine ⟨fun h => by simp [Fence.wide] at h, callsW (Calls.mono (hc hcv) ?_)⟩
    rintro en w' ⟨r, rfl, rfl, rfl⟩
    show K (Act.put _ (some d) r) _
    have := hK _ _ _ h (hft.put (by simpa [Nat.blt_eq] using hn) c r)
    simp only [gval, hcv] at this
    exact this
theorem sCallq {f : FuncId} {args : Array Operand} {ats : Array TypeId} {lo : List Operand} {vs : List Value} {v : Value} (hf : Callable X.P f) (hc : cv c = true → Ret X.P f ⟨vs⟩ w fun r w' => r = v ∧ w' = w)
    (h : GL X ops l k ((d, c, v) :: e) w) (hg : guardE ops e ⟨some d, .call { callee := .value (.func f), args := args, argTypes := ats }, ty, pos, af, g⟩ = some c := by exact rfl)
    (ha : args = ⟨lo⟩ := by exact rfl) (hvs : OpL e c lo vs := by repeat (first | exact OpL.nil | refine OpL.cons (Op1.of rfl (by first | exact fun _ => rfl | exact fun h => h | exact fun h => bL h | exact fun h => bL (bL h))) ?_)) (hn : Nat.blt d X.n = true := by exact rfl) :
    GL X ops (⟨some d, .call { callee := .value (.func f), args := args, argTypes := ats }, ty, pos, af, g⟩ :: l) k e w := GL.cons (Step.callQ hg ha hvs hf hn hc h)
theorem dCallq {S : World → Prop} {lb : List (Oper × Bool)} {f : FuncId} {args : Array Operand} {ats : Array TypeId} {lo : List Operand} {vs : List Value} {v : Value} (hf : Callable X.P f) (hc : ∀ w', S w' → cv c = true → Ret X.P f ⟨vs⟩ w' fun r w'' => r = v ∧ w'' = w')
    (h : GMN X ops S N lb ((d, c, v) :: e) w) (hg : guardE ops e ⟨some d, .call { callee := .value (.func f), args := args, argTypes := ats }, ty, pos, af, g⟩ = some c := by exact rfl)
    (ha : args = ⟨lo⟩ := by exact rfl) (hvs : OpL e c lo vs := by repeat (first | exact OpL.nil | refine OpL.cons (Op1.of rfl (by first | exact fun _ => rfl | exact fun h => h | exact fun h => bL h | exact fun h => bL (bL h))) ?_)) (hn : Nat.blt d X.n = true := by exact rfl) :
    GMN X ops S N ((⟨some d, .call { callee := .value (.func f), args := args, argTypes := ats }, ty, pos, af, g⟩, true) :: lb) e w := GM.read (fun w' hS => Step.callQ hg ha hvs hf hn (hc w' hS) ⟨rfl, rfl⟩) rfl hn h
/-- the other sign -/
theorem Step.neg {xt : TypeId} {x : Operand} {q : IntKind} {a r : Int} (hg : guardE ops e ⟨some d, .unOp .neg xt x, ty, pos, af, g⟩ = some c)
    (hx : Op1 e c x (.int q a)) (hr : q.wrap (0 - a) = r) (hn : Nat.blt d X.n = true)
    (h : N ((d, c, .int q r) :: e) w) : Step X ops ⟨some d, .unOp .neg xt x, ty, pos, af, g⟩ e w N :=
  Step.quiet rfl (by simpa [Nat.blt_eq] using hn) hg (fun _ hh => by cases hh) (fun t hf hc => by
    simp only [execOp, hx.val hf hc]
    simp [go_sem, Op.intArith, ← hr]) h
theorem sNeg {xt : TypeId} {x : Operand} {a : Int} (h : GL X ops l k ((d, c, .int .i64 (0 - a)) :: e) w) (hg : guardE ops e ⟨some d, .unOp .neg xt x, ty, pos, af, g⟩ = some c := by exact rfl)
    (hx : Op1 e c x (.int .i64 a) := by exact Op1.of rfl (by first | exact fun _ => rfl | exact fun h => h | exact fun h => bL h)) (hr : IntKind.i64.wrap (0 - a) = 0 - a := by exact wrap_i64 (by omega) (by omega)) (hn : Nat.blt d X.n = true := by exact rfl) :
    GL X ops (⟨some d, .unOp .neg xt x, ty, pos, af, g⟩ :: l) k e w := GL.cons (Step.neg hg hx hr hn h)
/-- structs of texts and whole numbers held against each other -/
theorem Step.eqSt (T : Tb X.P) {op : BinOp} {xt yt : TypeId} {x y : Operand} {a b : List Value} {r : Bool} {fs : Array Field} (hg : guardE ops e ⟨some d, .binOp op xt x y yt, ty, pos, af, g⟩ = some c)
    (hx : Op1 e c x (.agg ⟨a⟩)) (hy : Op1 e c y (.agg ⟨b⟩)) (ht : T.ty xt = some (.struct fs)) (hp : X.P.stoodInHeld xt = false) (hm : X.P.eqGuardType X.P.depth xt = false)
    (hq : ∀ w, (Op.eqFields 9999 ⟨a⟩ ⟨b⟩ fs.toList).run X.P w = .ok r w) (hn : Nat.blt d X.n = true)
    (ho : op = .eql ∨ op = .neq) (h : N ((d, c, .bool (match op with | .eql => r | _ => !r)) :: e) w) : Step X ops ⟨some d, .binOp op xt x y yt, ty, pos, af, g⟩ e w N := by
  have hT := T.ok _ _ ht
  have hfs : X.P.fieldsOf xt = fs := by simp [Program.fieldsOf, hT]
  have he : ∀ w, (Op.equalIn 10000 xt (.agg ⟨a⟩) (.agg ⟨b⟩)).run X.P w = .ok r w := fun w => by
    rw [show (10000 : Nat) = 9999 + 1 from rfl, run_equalIn_struct w 9999 xt _ _ (by rw [hfs]; exact hT) hp, hfs]; exact hq w
  refine Step.eqA hg hx hy (fun w => ?_) hn h
  rcases ho with rfl | rfl
  · simp only [Sem.run_bind, run_eqGuard_agg w _ _ _ _ _ _ hm, Result.andThen_ok, run_eql_struct, he]
  · simp only [Sem.run_bind, run_eqGuard_agg w _ _ _ _ _ _ hm, Result.andThen_ok, run_neq_struct, he]
theorem sCb (T : Tb X.P) {x : Operand} {src dst : TypeId} {q : IntKind} {m : Int} {sd : TypeDesc} (h : GL X ops l k ((d, c, U (byI m)) :: e) w)
    (hg : guardE ops e ⟨some d, .convert src dst x, ty, pos, af, g⟩ = some c := by exact rfl) (hx : Op1 e c x (.int q m) := by exact Op1.of rfl (by first | exact fun _ => rfl | exact fun h => h)) (hs : T.ty src = some sd := by exact rfl) (ht : T.ty dst = some (.int .u8) := by exact rfl) (hn : Nat.blt d X.n = true := by exact rfl) :
    GL X ops (⟨some d, .convert src dst x, ty, pos, af, g⟩ :: l) k e w := GL.cons (Step.convB T hg hx hs ht hn h)
theorem sCu (T : Tb X.P) {x : Operand} {src dst : TypeId} {q : IntKind} {b : UInt8} {sd : TypeDesc} (h : GL X ops l k ((d, c, .int q (b.toNat : Int)) :: e) w)
    (hg : guardE ops e ⟨some d, .convert src dst x, ty, pos, af, g⟩ = some c := by exact rfl) (hx : Op1 e c x (U b) := by exact Op1.of rfl (by first | exact fun _ => rfl | exact fun h => h)) (hs : T.ty src = some sd := by exact rfl) (ht : T.ty dst = some (.int q) := by exact rfl) (hq : bigK q = true := by exact rfl) (hn : Nat.blt d X.n = true := by exact rfl) :
    GL X ops (⟨some d, .convert src dst x, ty, pos, af, g⟩ :: l) k e w := GL.cons (Step.convU T hg hx hs ht hq hn h)
theorem sShr {xt yt : TypeId} {x y : Operand} {q qy : IntKind} {a r : Int} {n : Nat} (hr : a / 2 ^ n = r) (h : GL X ops l k ((d, c, .int q r) :: e) w)
    (hg : guardE ops e ⟨some d, .binOp .shr xt x y yt, ty, pos, af, g⟩ = some c := by exact rfl) (hx : Op1 e c x (.int q a) := by exact Op1.of rfl (by first | exact fun _ => rfl | exact fun h => h)) (hy : Op1 e c y (.int qy n) := by exact Op1.of rfl (by first | exact fun _ => rfl | exact fun h => h)) (hb : n ≤ q.bits := by exact of_decide_eq_true rfl) (hn : Nat.blt d X.n = true := by exact rfl) :
    GL X ops (⟨some d, .binOp .shr xt x y yt, ty, pos, af, g⟩ :: l) k e w := GL.cons (Step.shr hg hx hy hr hb hn h)
theorem sIx (T : Tb X.P) {x i : Operand} {st et : TypeId} {n : Nat} {us : List Value} {u z : Value} {ed : TypeDesc} {by_ : Nat} {m : Int} (j : Nat) (hj : cv c = true → m = j ∧ j < n ∧ us[j]? = some u) (h : GL X ops l k ((d, c, u) :: e) w)
    (hg : guardE ops e ⟨some d, .index st x i, ty, pos, af, g⟩ = some c := by exact rfl) (hx : Op1 e c x (.agg ⟨us⟩) := by exact Op1.of rfl (by first | exact fun _ => rfl | exact fun h => h)) (hi : Op1 e c i (.int .i64 m) := by exact Op1.of rfl (by first | exact fun _ => rfl | exact fun h => h))
    (ht : T.ty st = some (.array n et) := by exact rfl) (he : T.ty et = some ed := by exact rfl) (ha : aggT ed = false := by exact rfl) (hz : T.inf et = some (z, 1, by_) := by exact rfl) (hn : Nat.blt d X.n = true := by exact rfl) :
    GL X ops (⟨some d, .index st x i, ty, pos, af, g⟩ :: l) k e w := GL.cons (Step.indexA T j hg hx hi ht he ha hz hj hn h)
theorem sAps (T : Tb X.P) {x y : Operand} {t u et : TypeId} {v z : Value} {B : Nat} {xs s : List UInt8} (hv : Owns w B v et 1 (bysC xs)) (h : ∀ v' w', Owns w' B v' et 1 (bysC (xs ++ s)) → Grew B v w w' → GL X ops l k ((d, none, v') :: e) w')
    (hg : guardE ops e ⟨some d, .call { callee := .builtin .append, args := #[x, y], argTypes := #[t, u] }, ty, pos, af, g⟩ = some none := by exact rfl)
    (hx : Op1 e none x v := by exact Op1.of rfl (fun _ => rfl)) (hy : Op1 e none y (S s) := by exact Op1.of rfl (fun _ => rfl)) (ht : T.ty t = some (.slice et) := by exact rfl) (hu : T.ty u = some .string := by exact rfl) (hi : T.inf et = some (z, 1, 1) := by exact rfl) (hz : z = .int .u8 0 := by exact rfl) (hn : Nat.blt d X.n = true := by exact rfl)
    (hl : xs.length + s.length ≤ 140737488355328 := by simp only [List.length_map, List.length_append, List.length_cons, List.length_nil, List.length_take, List.length_drop]; omega) (hB : B ≤ w.heap.size := by omega) :
    GL X ops (⟨some d, .call { callee := .builtin .append, args := #[x, y], argTypes := #[t, u] }, ty, pos, af, g⟩ :: l) k e w := GL.cons (Step.appendS T hg hx hy ht hu hi hz hv hl hB hn h)
theorem sByS (T : Tb X.P) {x : Operand} {src dst et : TypeId} {v : Value} {xs : List UInt8} (hv : By w v xs) (h : GL X ops l k ((d, c, S xs) :: e) w)
    (hg : guardE ops e ⟨some d, .convert src dst x, ty, pos, af, g⟩ = some c := by exact rfl) (hx : Op1 e c x v := by exact Op1.of rfl (by first | exact fun _ => rfl | exact fun h => h)) (hs : T.ty src = some (.slice et) := by exact rfl) (he : T.ty et = some (.int .u8) := by exact rfl) (ht : T.ty dst = some .string := by exact rfl) (hn : Nat.blt d X.n = true := by exact rfl) :
    GL X ops (⟨some d, .convert src dst x, ty, pos, af, g⟩ :: l) k e w := GL.cons (Step.bytesS T hg hx hs he ht (fun _ => hv) hn h)
theorem sApb (T : Tb X.P) {x y : Operand} {t et : TypeId} {v u z : Value} {B : Nat} {xs ys : List UInt8} (hv : Owns w B v et 1 (bysC xs)) (hu : By w u ys)
    (h : ∀ v' w', Owns w' B v' et 1 (bysC (xs ++ ys)) → Grew B v w w' → GL X ops l k ((d, none, v') :: e) w')
    (hl : xs.length + ys.length ≤ 140737488355328 := by simp only [List.length_map, List.length_append, List.length_cons, List.length_nil, List.length_take, List.length_drop]; omega)
    (hB : B ≤ w.heap.size := by omega)
    (hg : guardE ops e ⟨some d, .call { callee := .builtin .append, args := #[x, y], argTypes := #[t, t] }, ty, pos, af, g⟩ = some none := by exact rfl)
    (hx : Op1 e none x v := by exact Op1.of rfl (fun _ => rfl)) (hy : Op1 e none y u := by exact Op1.of rfl (fun _ => rfl)) (ht : T.ty t = some (.slice et) := by exact rfl) (hi : T.inf et = some (z, 1, 1) := by exact rfl) (hz : z.cells.size = 1 := by exact rfl) (hn : Nat.blt d X.n = true := by exact rfl) :
    GL X ops (⟨some d, .call { callee := .builtin .append, args := #[x, y], argTypes := #[t, t] }, ty, pos, af, g⟩ :: l) k e w :=
  GL.cons (Step.append T hg hx hy ht hi rfl hz hv hu (bysC_one _) (by rw [bysC_len, bysC_len]; omega) (by rw [bysC_len, bysC_len]; exact hl) hB hn fun v' w' ho hgr => h v' w' (by rw [bysC_app]; exact ho) hgr)
end
end Go.Vg
