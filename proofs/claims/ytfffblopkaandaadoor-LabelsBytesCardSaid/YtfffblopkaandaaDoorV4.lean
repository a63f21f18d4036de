/- Memory over abstract frames: pointers as values, rows of cells, boxes, slices. -/
import Derived.Test.YtfffblopkaandaaDoorV3
namespace Go.Vg
open Go.RowKit

/-! ### The tables of types -/
def lk {α : Type} : List (Nat × α) → Nat → Option α
  | [], _ => none
  | (k, v) :: r, t => match Nat.beq k t with
    | true => some v
    | false => lk r t
def AllT (P : Program) : List (Nat × TypeDesc) → Prop
  | [] => True
  | (k, d) :: r => P.underlying k = some d ∧ AllT P r
def AllI (P : Program) : List (Nat × Value × Nat × Nat) → Prop
  | [] => True
  | (k, x) :: r => (P.info? k).map (fun i => (i.zero, i.size, i.bytes)) = some (some x.1, x.2.1, x.2.2) ∧ AllI P r
theorem AllT.lk {P : Program} {l : List (Nat × TypeDesc)} (h : AllT P l) {t : Nat} {d : TypeDesc} (hl : lk l t = some d) : P.underlying t = some d := by
  induction l with
  | nil => cases hl
  | cons p r ih =>
    obtain ⟨k, v⟩ := p
    simp only [Vg.lk] at hl
    cases hk : Nat.beq k t with
    | true => rw [hk] at hl; obtain rfl := Nat.eq_of_beq_eq_true hk; cases hl; exact h.1
    | false => rw [hk] at hl; exact ih h.2 hl
theorem AllI.lk {P : Program} {l : List (Nat × Value × Nat × Nat)} (h : AllI P l) {t : Nat} {z : Value} {s b : Nat} (hl : lk l t = some (z, s, b)) :
    ∃ i, P.info? t = some i ∧ i.zero = some z ∧ i.size = s ∧ i.bytes = b := by
  induction l with
  | nil => cases hl
  | cons p r ih =>
    obtain ⟨k, v⟩ := p
    simp only [Vg.lk] at hl
    cases hk : Nat.beq k t with
    | true =>
      rw [hk] at hl; obtain rfl := Nat.eq_of_beq_eq_true hk; cases hl
      have h1 := h.1
      cases hi : P.info? k with
      | none => rw [hi] at h1; cases h1
      | some i =>
        rw [hi] at h1
        simp only [Option.map_some, Option.some.injEq, Prod.mk.injEq] at h1
        exact ⟨i, rfl, h1.1, h1.2.1, h1.2.2⟩
    | false => rw [hk] at hl; exact ih h.2 hl
def Tb.mk' {P : Program} (l : List (Nat × TypeDesc)) (m : List (Nat × Value × Nat × Nat)) (hl : AllT P l) (hm : AllI P m) : Tb P :=
  { ty := lk l, ok := fun _ _ => hl.lk, inf := lk m, iok := fun _ _ _ _ => hm.lk }

/-! ### Pointers -/
/-- a pointer (or a slice's head) moved on by some cells -/
def padd (v : Value) (n : Nat) : Value :=
  match v with
  | .pointer (some a) => .pointer (some (a.add n))
  | .slice (some a) _ _ => .pointer (some (a.add n))
  | _ => .pointer none

def CellAt (w : World) (p u : Value) : Prop := ∃ a : Addr, p = .pointer (some a) ∧ w.cell? a = some u
/-- p points to a row of cells -/
def CellsAt (w : World) (p : Value) (us : List Value) : Prop := ∃ a : Addr, p = .pointer (some a) ∧ a.spot = none ∧ ∀ i u, us[i]? = some u → w.cell? (a.add i) = some u

theorem Addr.add_add (a : Addr) (h : a.spot = none) (m n : Nat) : (a.add m).add n = a.add (m + n) := by
  obtain ⟨b, o, s⟩ := a
  simp only at h
  subst h
  unfold Addr.add
  by_cases hm : m = 0 <;> by_cases hn : n = 0 <;> simp [hm, hn] <;> omega
theorem Addr.add_spot (a : Addr) (h : a.spot = none) (m : Nat) : (a.add m).spot = none := by unfold Addr.add; split <;> simp [h]
theorem Addr.add_block (a : Addr) (m : Nat) : (a.add m).block = a.block := by unfold Addr.add; split <;> rfl
theorem Addr.add_zero (a : Addr) : a.add 0 = a := by simp [Addr.add]

theorem CellsAt.cell {w : World} {p : Value} {us : List Value} (h : CellsAt w p us) {i : Nat} {u : Value} (hi : us[i]? = some u) : CellAt w (padd p i) u := by
  obtain ⟨a, rfl, _, hc⟩ := h
  exact ⟨a.add i, rfl, hc i u hi⟩
theorem CellsAt.one {w : World} {p u : Value} (h : CellsAt w p [u]) : CellAt w p u := by
  obtain ⟨a, rfl, _, hc⟩ := h
  exact ⟨a, rfl, by have := hc 0 u rfl; rwa [Addr.add_zero] at this⟩

/-- w' is w with more behind it -/
abbrev Ext (w w' : World) : Prop := Below w.heap.size w w'
theorem Ext.trans {a b c : World} (h : Ext a b) (k : Ext b c) : Ext a c := Below.trans h (k.mono h.size)
theorem Ext.refl (w : World) : Ext w w := Below.refl _ _
theorem Ext.alloc (w : World) (o : Obj) : Ext w (w.alloc o) := (Below.refl _ w).alloc (Nat.le_refl _) o
theorem Ext.drew (w : World) : Ext w w.drew := (Below.refl _ w).drew
theorem _root_.Go.RowKit.Below.ext {B : Nat} {a b c : World} (h : Below B a b) (k : Ext b c) (hB : B ≤ b.heap.size) : Below B a c := h.trans (k.mono hB)

theorem CellAt.to {w w' : World} {p u : Value} (h : CellAt w p u) (hb : Ext w w') : CellAt w' p u := by
  obtain ⟨a, rfl, hc⟩ := h
  exact ⟨a, rfl, by rw [hb.cell (World.block_lt_of_cell? w a hc)]; exact hc⟩
theorem CellsAt.to {w w' : World} {p : Value} {us : List Value} (h : CellsAt w p us) (hb : Ext w w') : CellsAt w' p us := by
  obtain ⟨a, rfl, hs, hc⟩ := h
  refine ⟨a, rfl, hs, fun i u hi => ?_⟩
  have h1 := hc i u hi
  rw [hb.cell (World.block_lt_of_cell? w _ h1)]; exact h1

/-- a slice: its elements, each a row of k cells -/
def Sli (w : World) (v : Value) (k : Nat) (xs : List (List Value)) : Prop :=
  (v = .slice none 0 0 ∧ xs = []) ∨
  ∃ a cap, v = .slice (some a) xs.length cap ∧ a.spot = none ∧ xs.length ≤ cap ∧ (∀ x ∈ xs, x.length = k) ∧
    (∀ i x, xs[i]? = some x → ∀ j u, x[j]? = some u → w.cell? (a.add (i * k + j)) = some u) ∧ xs.length ≤ 9223372036854775807

theorem Sli.nil (w : World) (k : Nat) : Sli w (.slice none 0 0) k [] := .inl ⟨rfl, rfl⟩
theorem Sli.to {w w' : World} {v : Value} {k : Nat} {xs : List (List Value)} (h : Sli w v k xs) (hb : Ext w w') : Sli w' v k xs := by
  rcases h with h | ⟨a, cap, h1, h2, h3, h4, h5, h6⟩
  · exact .inl h
  · refine .inr ⟨a, cap, h1, h2, h3, h4, fun i x hx j u hu => ?_, h6⟩
    have := h5 i x hx j u hu
    rw [hb.cell (World.block_lt_of_cell? w _ this)]; exact this
theorem Sli.bound {w : World} {v : Value} {k : Nat} {xs : List (List Value)} (h : Sli w v k xs) : xs.length ≤ 9223372036854775807 := by
  rcases h with ⟨_, rfl⟩ | ⟨_, _, _, _, _, _, _, h6⟩
  · simp
  · exact h6
theorem Sli.len {w : World} {v : Value} {k : Nat} {xs : List (List Value)} (h : Sli w v k xs) : ∃ a cap, v = .slice a xs.length cap ∧ xs.length ≤ cap := by
  rcases h with ⟨rfl, rfl⟩ | ⟨a, cap, h1, _, h3, _⟩
  · exact ⟨none, 0, rfl, Nat.le_refl _⟩
  · exact ⟨some a, cap, h1, h3⟩
theorem Sli.cells {w : World} {v : Value} {k : Nat} {xs : List (List Value)} (h : Sli w v k xs) : v.cells = ⟨[v]⟩ := by
  obtain ⟨a, cap, rfl, _⟩ := h.len; rfl
theorem Sli.one {w : World} {v : Value} {k : Nat} {xs : List (List Value)} (h : Sli w v k xs) : ∀ u ∈ [v], u.oneCell' = true := by
  obtain ⟨a, cap, rfl, _⟩ := h.len; simp [Value.oneCell']
theorem Sli.elem {w : World} {v : Value} {k : Nat} {xs : List (List Value)} (h : Sli w v k xs) {i : Nat} {x : List Value} (hi : xs[i]? = some x) : CellsAt w (padd v (i * k)) x := by
  rcases h with ⟨rfl, rfl⟩ | ⟨a, cap, rfl, h2, h3, h4, h5, _⟩
  · cases hi
  · refine ⟨a.add (i * k), rfl, Addr.add_spot a h2 _, fun j u hu => ?_⟩
    rw [Addr.add_add a h2]; exact h5 i x hi j u hu
theorem Sli.elemLen {w : World} {v : Value} {k : Nat} {xs : List (List Value)} (h : Sli w v k xs) {i : Nat} {x : List Value} (hi : xs[i]? = some x) : x.length = k := by
  rcases h with ⟨rfl, rfl⟩ | ⟨a, cap, rfl, h2, h3, h4, h5, _⟩
  · cases hi
  · exact h4 x (List.mem_of_getElem? hi)

/-! ### Operations on memory -/
def aggT : TypeDesc → Bool
  | .struct _ => true
  | .array _ _ => true
  | _ => false
theorem run_isAgg {P : Program} {t : TypeId} {d : TypeDesc} (h : P.underlying t = some d) (w : World) : (isAgg t).run P w = .ok (aggT d) w := by
  simp only [isAgg, Sem.run_bind, run_underlying h, Result.andThen_ok]
  cases d <;> rfl
theorem run_sizeOf {P : Program} {T : Tb P} {t : TypeId} {z : Value} {s b : Nat} (h : T.inf t = some (z, s, b)) (w : World) : (sizeOf t).run P w = .ok s w := by
  obtain ⟨i, h1, _, h3, _⟩ := T.iok _ _ _ _ h
  simp [sizeOf, typeInfo, h1, h3]

theorem run_loadAt1 {P : Program} {t : TypeId} {d : TypeDesc} (h : P.underlying t = some d) (hd : aggT d = false) {w : World} {p u : Value} (hc : CellAt w p u) :
    (Instr.loadAt t p).run P w = .ok u w := by
  obtain ⟨a, rfl, hc⟩ := hc
  simp [Instr.loadAt, Instr.sureAddr, loadVar, Sem.run_bind, run_isAgg h, hd, hc]
theorem run_loadAtA {P : Program} {t : TypeId} {d : TypeDesc} (T : Tb P) (h : P.underlying t = some d) (hd : aggT d = true) {z : Value} {s b : Nat} (hi : T.inf t = some (z, s, b))
    {w : World} {p : Value} {us : List Value} (hl : us.length = s) (hc : CellsAt w p us) : (Instr.loadAt t p).run P w = .ok (.agg ⟨us⟩) w := by
  obtain ⟨a, rfl, _, hc⟩ := hc
  subst hl
  have h1 := run_loadCells_list (P := P) w a us hc
  simp only [Instr.loadAt, Instr.sureAddr, loadVar, Sem.run_bind, Sem.run_pure, Result.andThen_ok, run_isAgg h, hd, if_true, run_sizeOf hi, h1]

section steps
variable {X : Cx} {ops : Array Oper} {e : Env} {w : World} {N : Env → World → Prop} {d : Nat} {c : Option Bool} {ty : TypeId} {pos : String} {af : Array Edge} {g : Option (Nat × Bool)}

theorem Step.load1 (T : Tb X.P) {x : Operand} {t : TypeId} {td : TypeDesc} {p u : Value} (hg : guardE ops e ⟨some d, .load t x, ty, pos, af, g⟩ = some c)
    (hx : Op1 e c x p) (ht : T.ty t = some td) (ha : aggT td = false) (hc : cv c = true → CellAt w p u) (hn : Nat.blt d X.n = true)
    (h : N ((d, c, u) :: e) w) : Step X ops ⟨some d, .load t x, ty, pos, af, g⟩ e w N :=
  Step.quiet rfl (by simpa [Nat.blt_eq] using hn) hg (fun _ hh => by cases hh) (fun t' hf hc' => by
    simp only [execOp, hx.val hf hc', Sem.run_bind, run_loadAt1 (T.ok _ _ ht) ha (hc hc'), Result.andThen_ok, Sem.run_pure]) h
theorem Step.loadA (T : Tb X.P) {x : Operand} {t : TypeId} {td : TypeDesc} {p z : Value} {s b : Nat} {us : List Value} (hg : guardE ops e ⟨some d, .load t x, ty, pos, af, g⟩ = some c)
    (hx : Op1 e c x p) (ht : T.ty t = some td) (ha : aggT td = true) (hi : T.inf t = some (z, s, b)) (hc : cv c = true → CellsAt w p us) (hl : cv c = true → us.length = s) (hn : Nat.blt d X.n = true)
    (h : N ((d, c, .agg ⟨us⟩) :: e) w) : Step X ops ⟨some d, .load t x, ty, pos, af, g⟩ e w N :=
  Step.quiet rfl (by simpa [Nat.blt_eq] using hn) hg (fun _ hh => by cases hh) (fun t' hf hc' => by
    simp only [execOp, hx.val hf hc', Sem.run_bind, run_loadAtA T (T.ok _ _ ht) ha hi (hl hc') (hc hc'), Result.andThen_ok, Sem.run_pure]) h

/-- a field's place in a struct's cells, and its type -/
def fieldOff (td : TypeDesc) (f : Nat) : Option (Nat × Nat) :=
  match td with
  | .struct fs => match fs.toList[f]? with
    | some x => some (x.offset, x.type)
    | none => none
  | _ => none
theorem run_fieldAt {P : Program} (T : Tb P) {st : TypeId} {f : Nat} {td : TypeDesc} {off ft s b : Nat} {z : Value} (ht : T.ty st = some td) (ho : fieldOff td f = some (off, ft))
    (hi : T.inf ft = some (z, s, b)) (hs : Nat.blt 0 s = true) (w : World) (a : Addr) : (Instr.fieldAt st (.pointer (some a)) f).run P w = .ok (.pointer (some (a.add off))) w := by
  have hT := T.ok _ _ ht
  unfold fieldOff at ho
  split at ho
  · rename_i fs
    split at ho
    · rename_i x hx
      simp only [Option.some.injEq, Prod.mk.injEq] at ho
      obtain ⟨rfl, rfl⟩ := ho
      have hx' : fs[f]? = some x := by simpa using hx
      have hs' : s ≠ 0 := by simp at hs; omega
      simp only [Instr.fieldAt, Sem.run_bind, run_underlying hT, Result.andThen_ok, hx', Instr.sureAddr, Sem.run_pure, fieldPlace, run_sizeOf hi, if_neg hs']
    · cases ho
  · cases ho
theorem Step.fieldAddr (T : Tb X.P) {x : Operand} {st : TypeId} {f : Nat} {td : TypeDesc} {p z : Value} {off ft s b : Nat} (hg : guardE ops e ⟨some d, .fieldAddr st x f, ty, pos, af, g⟩ = some c)
    (hx : Op1 e c x p) (ht : T.ty st = some td) (ho : fieldOff td f = some (off, ft)) (hi : T.inf ft = some (z, s, b)) (hs : Nat.blt 0 s = true)
    (hp : cv c = true → ∃ a : Addr, p = .pointer (some a)) (hn : Nat.blt d X.n = true)
    (h : N ((d, c, padd p off) :: e) w) : Step X ops ⟨some d, .fieldAddr st x f, ty, pos, af, g⟩ e w N :=
  Step.quiet rfl (by simpa [Nat.blt_eq] using hn) hg (fun _ hh => by cases hh) (fun t' hf hc' => by
    obtain ⟨a, rfl⟩ := hp hc'
    simp only [execOp, hx.val hf hc', Sem.run_bind, run_fieldAt T ht ho hi hs, Result.andThen_ok, Sem.run_pure]
    rfl) h
theorem Step.field (T : Tb X.P) {x : Operand} {st : TypeId} {f : Nat} {td ftd : TypeDesc} {us : List Value} {u : Value} {off ft : Nat} (hg : guardE ops e ⟨some d, .field st x f, ty, pos, af, g⟩ = some c)
    (hx : Op1 e c x (.agg ⟨us⟩)) (ht : T.ty st = some td) (ho : fieldOff td f = some (off, ft)) (hft : T.ty ft = some ftd) (ha : aggT ftd = false)
    (hu : us[off]? = some u) (hn : Nat.blt d X.n = true)
    (h : N ((d, c, u) :: e) w) : Step X ops ⟨some d, .field st x f, ty, pos, af, g⟩ e w N :=
  Step.quiet rfl (by simpa [Nat.blt_eq] using hn) hg (fun _ hh => by cases hh) (fun t' hf hc' => by
    have hT := T.ok _ _ ht
    unfold fieldOff at ho
    split at ho
    · rename_i fs
      split at ho
      · rename_i x hx0
        simp only [Option.some.injEq, Prod.mk.injEq] at ho
        obtain ⟨rfl, rfl⟩ := ho
        have hx' : fs[f]? = some x := by simpa using hx0
        simp [execOp, hx.val hf hc', Instr.field, Sem.run_bind, run_underlying hT, hx', asAgg, part, run_isAgg (T.ok _ _ hft), ha, hu]
      · cases ho
    · cases ho) h

theorem Step.indexAddr (T : Tb X.P) {x i : Operand} {st et : TypeId} {v z : Value} {k b : Nat} {m : Int} {xs : List (List Value)} (j : Nat)
    (hg : guardE ops e ⟨some d, .indexAddr st x i, ty, pos, af, g⟩ = some c)
    (hx : Op1 e c x v) (hi : Op1 e c i (.int .i64 m)) (ht : T.ty st = some (.slice et)) (hk : T.inf et = some (z, k, b)) (hs : cv c = true → ∃ w, Sli w v k xs) (hj : cv c = true → m = j ∧ j < xs.length)
    (hn : Nat.blt d X.n = true) (h : N ((d, c, padd v (j * k)) :: e) w) : Step X ops ⟨some d, .indexAddr st x i, ty, pos, af, g⟩ e w N :=
  Step.quiet rfl (by simpa [Nat.blt_eq] using hn) hg (fun _ hh => by cases hh) (fun t' hf hc' => by
    obtain ⟨rfl, hlt⟩ := hj hc'
    obtain ⟨w0, hs⟩ := hs hc'
    rcases hs with ⟨rfl, rfl⟩ | ⟨a, cap, rfl, _⟩
    · simp at hlt
    · have he : X.P.elem st = et := by simp [Program.elem, T.ok _ _ ht]
      have hr := run_indexAt_slice (P := X.P) w st a xs.length cap .i64 (j : Int) (by rw [he]; exact T.ok _ _ ht)
      rw [if_pos ⟨by omega, by omega⟩, he, run_sizeOf hk] at hr
      simp only [execOp, hx.val hf hc', hi.val hf hc', Sem.run_bind, hr, Result.andThen_ok, Sem.run_pure, Int.toNat_natCast]
      rfl) h

theorem Step.lenV (T : Tb X.P) {x : Operand} {at_ et : TypeId} {v : Value} {k : Nat} {xs : List (List Value)}
    (hg : guardE ops e ⟨some d, .call { callee := .builtin .len, args := #[x], argTypes := #[at_] }, ty, pos, af, g⟩ = some c)
    (hx : Op1 e c x v) (ht : T.ty at_ = some (.slice et)) (hs : cv c = true → ∃ w, Sli w v k xs) (hn : Nat.blt d X.n = true) (h : N ((d, c, .int .i64 xs.length) :: e) w) :
    Step X ops ⟨some d, .call { callee := .builtin .len, args := #[x], argTypes := #[at_] }, ty, pos, af, g⟩ e w N :=
  Step.quiet rfl (by simpa [Nat.blt_eq] using hn) hg (fun _ hh => by cases hh) (fun t hf hc => by
    obtain ⟨w0, hs⟩ := hs hc
    obtain ⟨a, cap, rfl, _⟩ := hs.len
    have he : X.P.elem at_ = et := by simp [Program.elem, T.ok _ _ ht]
    have hr := run_len_slice (P := X.P) w at_ ty a xs.length cap (by rw [he]; exact T.ok _ _ ht)
    have hv := hx.val (ds := X.ds) hf hc
    simp only [execOp, resolve, invoke, builtin, Sem.run_bind, Sem.run_pure, Result.andThen_ok, List.map_toArray, List.map_cons, List.map_nil, hv, hr]
    rfl) h
/-! ### Calls and ends -/
def evs (e : Env) : List Operand → Option (List Value)
  | [] => some []
  | x :: r => match ev e x with
    | some (none, v) => match evs e r with
      | some l => some (v :: l)
      | none => none
    | _ => none
theorem evs_map {n : Nat} {t : Array Value} {ds : List Deferred} (hf : Fits n e t) : ∀ {l : List Operand} {vs : List Value}, evs e l = some vs → l.map (Act.mk t ds).eval = vs
  | [], vs, h => by cases h; rfl
  | x :: r, vs, h => by
    simp only [evs] at h
    split at h
    · rename_i v hv
      split at h
      · rename_i l hl
        cases h
        simp only [List.map_cons, evs_map hf hl, hf.ev1 hv rfl]
      · cases h
    · cases h

/-! ### Boxes: blocks that are known whole -/
def ptr (b : Nat) : Value := .pointer (some ⟨b, 0, none⟩)
def Bx (w : World) (b : Nat) (us : List Value) : Prop := ∃ t, w.heap[b]? = some (.cells ⟨us⟩ t (0, 0))
theorem Bx.lt {w : World} {b : Nat} {us : List Value} (h : Bx w b us) : b < w.heap.size := by
  obtain ⟨t, h⟩ := h; exact (Array.getElem?_eq_some_iff.1 h).1
theorem Bx.cells {w : World} {b : Nat} {us : List Value} (h : Bx w b us) : CellsAt w (ptr b) us := by
  obtain ⟨t, hb⟩ := h
  refine ⟨_, rfl, rfl, fun i u hi => ?_⟩
  rw [Addr.add_lit, Nat.zero_add]
  rw [cell_of_row w b i ⟨us⟩ t (0, 0) hb]; simpa using hi
theorem Bx.to {w w' : World} {b : Nat} {us : List Value} (h : Bx w b us) (hb : Ext w w') : Bx w' b us := by
  obtain ⟨t, h2⟩ := h
  exact ⟨t, by rw [hb.block b (Array.getElem?_eq_some_iff.1 h2).1]; exact h2⟩
theorem Bx.new (w : World) (us : List Value) (t : TypeId) : Bx (w.alloc (.cells ⟨us⟩ t)) w.heap.size us := ⟨t, heap_alloc_new _ _⟩
theorem ptr_ptr (b : Nat) : ∃ a : Addr, ptr b = .pointer (some a) := ⟨_, rfl⟩
theorem CellsAt.ptr {w : World} {p : Value} {us : List Value} (h : CellsAt w p us) : ∃ a : Addr, p = .pointer (some a) := by
  obtain ⟨a, rfl, _⟩ := h; exact ⟨_, rfl⟩

/-- w' is w but for the contents of block b -/
structure Wr (b : Nat) (w w' : World) : Prop where
  os : w'.os = w.os
  tape : w'.tape = w.tape
  output : w'.output = w.output
  size : w'.heap.size = w.heap.size
  block : ∀ k, k ≠ b → w'.heap[k]? = w.heap[k]?
theorem Bx.wr {w w' : World} {b b' : Nat} {us : List Value} (h : Bx w b us) (hw : Wr b' w w') (hne : b ≠ b') : Bx w' b us := by
  obtain ⟨t, h⟩ := h; exact ⟨t, by rw [hw.block b hne]; exact h⟩
theorem _root_.Go.RowKit.Below.wr {B b : Nat} {w0 w w' : World} (h : Below B w0 w) (hw : Wr b w w') (hB : B ≤ b) : Below B w0 w' :=
  h.trans ⟨hw.os, hw.tape, hw.output, by rw [hw.size]; exact Nat.le_refl _, fun k hk => hw.block k (by omega)⟩
theorem Wr.setCell (w : World) (b o : Nat) (v : Value) : Wr b w (w.setCell ⟨b, o, none⟩ v) :=
  ⟨rfl, rfl, rfl, by simp, fun _ hk => heap_setCell_other w _ _ _ hk⟩
theorem Wr.trans {b : Nat} {w w' w'' : World} (h : Wr b w w') (k : Wr b w' w'') : Wr b w w'' :=
  ⟨k.os.trans h.os, k.tape.trans h.tape, k.output.trans h.output, k.size.trans h.size, fun i hi => (k.block i hi).trans (h.block i hi)⟩
theorem Wr.refl (b : Nat) (w : World) : Wr b w w := ⟨rfl, rfl, rfl, rfl, fun _ _ => rfl⟩

theorem run_storeCells_bx (P : Program) : ∀ (vs : List Value) (b o i : Nat) (us : List Value) (w : World), Bx w b us → o + i + vs.length ≤ us.length → (∀ v ∈ vs, v.oneCell' = true) →
    ∃ w', (storeCells ⟨b, o, none⟩ vs i).run P w = .ok () w' ∧ Wr b w w' ∧ Bx w' b (us.take (o + i) ++ vs ++ us.drop (o + i + vs.length))
  | [], b, o, i, us, w, h, _, _ => ⟨w, by simp [storeCells], Wr.refl b w, by simpa using h⟩
  | v :: r, b, o, i, us, w, h, hl, h1 => by
    obtain ⟨t, hb⟩ := h
    simp only [List.length_cons] at hl
    have hc : (w.cell? ⟨b, o + i, none⟩).isSome = true := by
      rw [cell_of_row w b (o + i) ⟨us⟩ t (0, 0) hb]; simp; omega
    obtain ⟨u0, hu0⟩ := Option.isSome_iff_exists.1 hc
    have hf : w.frozen? ⟨b, o + i, none⟩ = false := frozen_of_row w b (o + i) ⟨us⟩ t hb
    have hst := run_store P w ⟨b, o + i, none⟩ v .plain (h1 v (by simp))
    rw [hu0] at hst
    simp only [hf, Bool.false_eq_true, if_false] at hst
    have hb2 : Bx (w.setCell ⟨b, o + i, none⟩ v) b (us.set (o + i) v) := ⟨t, by
      have := heap_setCell_same w b (o + i) ⟨us⟩ t v hb
      simpa using this⟩
    obtain ⟨w', hr, hw, hx⟩ := run_storeCells_bx P r b o (i + 1) _ _ hb2 (by simp; omega) (fun u hu => h1 u (by simp [hu]))
    refine ⟨w', ?_, (Wr.setCell w b (o + i) v).trans hw, ?_⟩
    · simp only [storeCells, Sem.run_bind, Addr.add_lit, hst, Result.andThen_ok, hr]
    · have e : (us.set (o + i) v).take (o + (i + 1)) ++ r ++ (us.set (o + i) v).drop (o + (i + 1) + r.length) = us.take (o + i) ++ (v :: r) ++ us.drop (o + i + (v :: r).length) := by
        have h3 : o + i < us.length := by omega
        rw [show o + (i + 1) = (o + i) + 1 by omega, List.take_set, List.drop_set_of_lt (by omega)]
        rw [List.take_succ_eq_append_getElem (by simpa using h3)]
        rw [List.set_append_right _ _ (by simp; omega)]
        simp [show min (o + i) us.length = o + i by omega]
        congr 1; omega
      rw [← e]; exact hx

theorem Step.box {x : Operand} {t : TypeId} {v : Value} {us : List Value} (hg : guardE ops e ⟨some d, .box t x, ty, pos, af, g⟩ = some none)
    (hx : Op1 e none x v) (hv : v.cells = ⟨us⟩) (hn : Nat.blt d X.n = true)
    (h : ∀ w', Bx w' w.heap.size us → w'.heap.size = w.heap.size + 1 → Ext w w' → N ((d, none, ptr w.heap.size) :: e) w') : Step X ops ⟨some d, .box t x, ty, pos, af, g⟩ e w N :=
  Step.eff (v := ptr w.heap.size) (w' := w.alloc (.cells ⟨us⟩ t)) rfl (by simpa [Nat.blt_eq] using hn) hg (fun _ hh => by cases hh) (fun t' hf => by
    simp only [execOp, hx.val hf rfl, Instr.box, newVar, newRow, hv, Sem.run_bind, run_newObj, Result.andThen_ok, Sem.run_pure]
    rfl) (h _ (Bx.new _ _ _) (by simp) (Ext.alloc _ _))
theorem Step.alloc (T : Tb X.P) {t : TypeId} {z : Value} {s b : Nat} {us : List Value} (hg : guardE ops e ⟨some d, .alloc t, ty, pos, af, g⟩ = some none)
    (hi : T.inf t = some (z, s, b)) (hv : z.cells = ⟨us⟩) (hn : Nat.blt d X.n = true)
    (h : ∀ w', Bx w' w.heap.size us → w'.heap.size = w.heap.size + 1 → Ext w w' → N ((d, none, ptr w.heap.size) :: e) w') : Step X ops ⟨some d, .alloc t, ty, pos, af, g⟩ e w N :=
  Step.eff (v := ptr w.heap.size) (w' := w.alloc (.cells ⟨us⟩ t)) rfl (by simpa [Nat.blt_eq] using hn) hg (fun _ hh => by cases hh) (fun t' _ => by
    obtain ⟨i, h1, h2, _⟩ := T.iok _ _ _ _ hi
    simp only [execOp, Instr.alloc, zeroValue, typeInfo, run_program, h1, h2, newVar, newRow, hv, Sem.run_bind, run_newObj, Result.andThen_ok, Sem.run_pure]
    rfl) (h _ (Bx.new _ _ _) (by simp) (Ext.alloc _ _))

/-- a store into a block that is known whole: the cells from off on -/
theorem Step.store (T : Tb X.P) {x y : Operand} {t : TypeId} {v z : Value} {vs us : List Value} {s by_ b off : Nat} (hg : guardE ops e ⟨none, .store t x y, ty, pos, af, g⟩ = some none)
    (hx : Op1 e none x (padd (ptr b) off)) (hy : Op1 e none y v) (hi : T.inf t = some (z, s, by_)) (hv : v.cells = ⟨vs⟩) (hs : vs.length = s) (h1 : ∀ v ∈ vs, v.oneCell' = true)
    (hb : Bx w b us) (hl : off + s ≤ us.length)
    (h : ∀ w', Bx w' b (us.take off ++ vs ++ us.drop (off + s)) → Wr b w w' → N e w') : Step X ops ⟨none, .store t x y, ty, pos, af, g⟩ e w N := by
  obtain ⟨w', hr, hw, hx'⟩ := run_storeCells_bx X.P vs b off 0 us w hb (by omega) h1
  refine Step.effNone rfl hg (fun _ hh => by cases hh) (w' := w') (fun t' hf => ?_) (h w' (by simpa [hs] using hx') hw)
  have hp : padd (ptr b) off = .pointer (some ⟨b, off, none⟩) := by simp [padd, ptr, Addr.add_lit]
  have hsz : ¬ ((⟨vs⟩ : Array Value).size ≠ s) := by simp [hs]
  simp only [execOp, hx.val hf rfl, hy.val hf rfl, hp, Instr.storeAt, Instr.sureAddr, storeVar, Sem.run_bind, Sem.run_pure, Result.andThen_ok, run_sizeOf hi, hv, if_neg hsz, hr]
theorem Step.store0 (T : Tb X.P) {x y : Operand} {t : TypeId} {v z : Value} {vs us : List Value} {s by_ b : Nat} (hg : guardE ops e ⟨none, .store t x y, ty, pos, af, g⟩ = some none)
    (hx : Op1 e none x (ptr b)) (hy : Op1 e none y v) (hi : T.inf t = some (z, s, by_)) (hv : v.cells = ⟨vs⟩) (hs : vs.length = s) (h1 : ∀ v ∈ vs, v.oneCell' = true)
    (hb : Bx w b us) (hl : us.length = s)
    (h : ∀ w', Bx w' b vs → Wr b w w' → N e w') : Step X ops ⟨none, .store t x y, ty, pos, af, g⟩ e w N := by
  refine Step.store T hg (b := b) (off := 0) ?_ hy hi hv hs h1 hb (by omega) ?_
  · have : padd (ptr b) 0 = ptr b := by simp [padd, ptr, Addr.add_zero]
    rw [this]; exact hx
  · intro w' hb' hw
    refine h w' ?_ hw
    simpa [← hl] using hb'

theorem Step.makeFunc {f : FuncId} {captured : Array Operand} {l : List Operand} {vs : List Value} (hg : guardE ops e ⟨some d, .makeFunc (.func f) #[] captured, ty, pos, af, g⟩ = some none)
    (ha : captured = ⟨l⟩) (hvs : evs e l = some vs) (hn : Nat.blt d X.n = true)
    (h : N ((d, none, .func (.func f) #[] ⟨vs⟩) :: e) w) : Step X ops ⟨some d, .makeFunc (.func f) #[] captured, ty, pos, af, g⟩ e w N := 
  Step.quiet rfl (by simpa [Nat.blt_eq] using hn) hg (fun _ hh => by cases hh) (fun t hft _ => by
    have h1 := evs_map (ds := X.ds) hft hvs
    subst ha
    have h2 : (Array.mk l).map (Act.mk t X.ds).eval = ⟨vs⟩ := by simp [h1]
    simp only [execOp, Instr.makeFunc, h2, Sem.run_bind, Sem.run_pure, Result.andThen_ok, List.map_toArray, List.map_nil]) h

/-- a function with a body of its own -/
def Callable (P : Program) (f : FuncId) : Prop := ∃ fn, P.funcs[f]? = some fn ∧ fn.body.isNone = false ∧ (fn.name == "runtime.NumGoroutine") = false
theorem run_callFunc {P : Program} {f : FuncId} (h : Callable P f) (args : Array Value) (w : World) : (callFunc f args).run P w = .ok (.enter f args) w := by
  obtain ⟨fn, hf, hb, hname⟩ := h
  have h1 : ¬ fn.name = "runtime.NumGoroutine" := by simpa using hname
  have h2 : ¬ fn.body = none := by intro h; rw [h] at hb; cases hb
  simp [callFunc, hf, h1, h2]

theorem Step.callF {f : FuncId} {args : Array Operand} {ats : Array TypeId} {l : List Operand} {vs : List Value} {R : Value → World → Prop}
    (hg : guardE ops e ⟨some d, .call { callee := .value (.func f), args := args, argTypes := ats }, ty, pos, af, g⟩ = some none)
    (ha : args = ⟨l⟩) (hvs : evs e l = some vs) (hf : Callable X.P f)
    (hn : Nat.blt d X.n = true) (hc : Ret X.P f ⟨vs⟩ w R)
    (h : ∀ v w', R v w' → N ((d, none, v) :: e) w') : Step X ops ⟨some d, .call { callee := .value (.func f), args := args, argTypes := ats }, ty, pos, af, g⟩ e w N :=
  Step.call rfl (by simpa [Nat.blt_eq] using hn) hg (fun _ hh => by cases hh) (fun t hft => by
    have := evs_map (ds := X.ds) hft hvs
    subst ha
    have h2 : (Array.mk l).map (Act.mk t X.ds).eval = ⟨vs⟩ := by simp [this]
    simp only [execOp, resolve, h2, Act.eval, Deferred.ofValue, Sem.run_bind, Sem.run_pure, Result.andThen_ok, invoke, Array.empty_append, Array.append_empty, run_callFunc hf]) hc h
theorem Step.callF0 {f : FuncId} {args : Array Operand} {ats : Array TypeId} {l : List Operand} {vs : List Value} {R : Value → World → Prop}
    (hg : guardE ops e ⟨none, .call { callee := .value (.func f), args := args, argTypes := ats }, ty, pos, af, g⟩ = some none)
    (ha : args = ⟨l⟩) (hvs : evs e l = some vs) (hf : Callable X.P f)
    (hc : Ret X.P f ⟨vs⟩ w R)
    (h : ∀ v w', R v w' → N e w') : Step X ops ⟨none, .call { callee := .value (.func f), args := args, argTypes := ats }, ty, pos, af, g⟩ e w N :=
  Step.callNone rfl hg (fun _ hh => by cases hh) (fun t hft => by
    have := evs_map (ds := X.ds) hft hvs
    subst ha
    have h2 : (Array.mk l).map (Act.mk t X.ds).eval = ⟨vs⟩ := by simp [this]
    simp only [execOp, resolve, h2, Act.eval, Deferred.ofValue, Sem.run_bind, Sem.run_pure, Result.andThen_ok, invoke, Array.empty_append, Array.append_empty, run_callFunc hf]) hc h
end steps

/-! ### A function from its body -/
def retFin (P : Program) (fn : Func) (R : Value → World → Prop) : Exit → Act → World → Prop := bodyPost P fn fun en w' => ∃ v, en = .returned v ∧ R v w'

def argEnv : Nat → List Value → Env
  | _, [] => []
  | k, v :: r => (k, none, v) :: argEnv (k + 1) r

theorem fits_args {n : Nat} (l r : List Value) (k : Nat) (hk : r.length = k) (hn : k + l.length ≤ n) :
    ∀ t : Array Value, t.size = n → (∀ i, i < k + l.length → t.getD i undef = (r ++ l).getD i undef) → Fits n (argEnv k l) t := by
  induction l generalizing r k with
  | nil => intro t ht _; exact ⟨ht, fun _ _ _ h => by cases h⟩
  | cons v l ih =>
    intro t ht hv
    have h1 := ih (r ++ [v]) (k + 1) (by simp [hk]) (by simp at hn; omega) t ht (fun i hi => by
      have := hv i (by simp at hi ⊢; omega)
      simpa using this)
    refine ⟨ht, fun j c u hl => ?_⟩
    simp only [argEnv, look] at hl
    cases hb : Nat.beq k j with
    | true =>
      rw [hb] at hl
      obtain rfl := Nat.eq_of_beq_eq_true hb
      simp only [Option.some.injEq, Prod.mk.injEq] at hl
      obtain ⟨rfl, rfl⟩ := hl
      refine ⟨by simp at hn; omega, ?_⟩
      rw [hv k (by simp)]
      simp [List.getD, hk, gval, cv]
    | false => rw [hb] at hl; exact h1.get j c u hl

theorem ret_of_G {P : Program} {f : FuncId} {fn : Func} {c : Code} {vs : List Value} {w : World} {R : Value → World → Prop} {n : Nat}
    (hf : P.funcs[f]? = some fn) (hb : fn.body = some c) (hn : fn.ntmps = n) (hl : Nat.ble vs.length n = true)
    (h : G ⟨none, P, retFin P fn R, n, []⟩ [.code c] (argEnv 0 vs) w) : Ret P f ⟨vs⟩ w R := by
  refine calls_of_wp hf hb ?_
  have hsz : vs.length ≤ n := by simpa using hl
  have hfit : Fits n (argEnv 0 vs) ((⟨vs⟩ : Array Value) ++ Array.replicate (fn.ntmps - (⟨vs⟩ : Array Value).size) undef) := by
    refine fits_args vs [] 0 rfl (by omega) _ (by simp [hn]; omega) (fun i hi => ?_)
    have hi' : i < vs.length := by omega
    simp [Array.getD_eq_getD_getElem?, List.getD, Array.getElem?_append, hi']
  have h1 := h _ hfit
  refine wpIn_wide (n := 0) |>.1 ?_
  refine wpIn_mono h1 ?_
  intro ex a w' hq
  cases ex <;> exact hq

/-- one result -/
theorem G.ret1 {X : Cx} {k : List Kt} {e : Env} {w : World} {P : Program} {fn : Func} {R : Value → World → Prop} (hX : X.fin = retFin P fn R) (hd : X.ds = []) {s : Nat} {v : Value}
    (hr : fn.results = #[.tmp s]) (hv : look e s = some (none, v)) (h : R v w) : G X (.code .ret :: k) e w := by
  refine G.ret fun t ht => ?_
  rw [hX, hd]
  refine ⟨rfl, v, ?_, v, rfl, h⟩
  rw [results_tmp hr, (ht.get _ _ _ hv).2]
  rfl
theorem G.ret0 {X : Cx} {k : List Kt} {e : Env} {w : World} {P : Program} {fn : Func} {R : Value → World → Prop} (hX : X.fin = retFin P fn R) (hd : X.ds = [])
    (hr : fn.results = #[]) (h : R (.tuple #[]) w) : G X (.code .ret :: k) e w := by
  refine G.ret fun t _ => ?_
  rw [hX, hd]
  refine ⟨rfl, _, ?_, _, rfl, h⟩
  exact results_none hr _ _ _
theorem G.end0 {X : Cx} {e : Env} {w : World} {P : Program} {fn : Func} {R : Value → World → Prop} (hX : X.fin = retFin P fn R) (hd : X.ds = [])
    (hr : fn.results = #[]) (h : R (.tuple #[]) w) : G X [] e w := by
  refine G.nil fun t _ => ?_
  rw [hX, hd]
  refine ⟨rfl, _, ?_, _, rfl, h⟩
  exact results_none hr _ _ _
theorem G.ret2 {X : Cx} {k : List Kt} {e : Env} {w : World} {P : Program} {fn : Func} {R : Value → World → Prop} (hX : X.fin = retFin P fn R) (hd : X.ds = []) {s s' : Nat} {v v' : Value}
    (hr : fn.results = #[.tmp s, .tmp s']) (hv : look e s = some (none, v)) (hv' : look e s' = some (none, v')) (h : R (.tuple ⟨[v, v']⟩) w) : G X (.code .ret :: k) e w := by
  refine G.ret fun t ht => ?_
  rw [hX, hd]
  refine ⟨rfl, _, ?_, _, rfl, h⟩
  rw [results_tmp2 hr, (ht.get _ _ _ hv).2, (ht.get _ _ _ hv').2]
  rfl
end Go.Vg
