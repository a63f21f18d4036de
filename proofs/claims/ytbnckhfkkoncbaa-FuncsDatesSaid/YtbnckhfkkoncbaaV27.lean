/- A map of texts by texts: made, asked, written. -/
import Derived.Test.YtbnckhfkkoncbaaV26
import Derived.MapKept
import Derived.Scope
import Derived.OwnWalk
namespace Go.Vg
open Go.RowKit

abbrev TT := List (List UInt8 × List UInt8)
def aget : TT → List UInt8 → Option (List UInt8)
  | [], _ => none
  | p :: r, x => if p.1 = x then some p.2 else aget r x
def aput : TT → List UInt8 → List UInt8 → TT
  | [], x, y => [(x, y)]
  | p :: r, x, y => if p.1 = x then (x, y) :: r else p :: aput r x y
def mpC (es : TT) : List (Value × Value) := es.map fun p => (S p.1, S p.2)
/-- block b is a map of texts by texts -/
def Mp (w : World) (b : Nat) (es : TT) : Prop := ∃ ms clock, w.heap[b]? = some (.map ⟨ms⟩ clock) ∧ ms.map (fun e => (e.key, e.val)) = mpC es
theorem Mp.lt {w : World} {b : Nat} {es : TT} (h : Mp w b es) : b < w.heap.size := by
  obtain ⟨ms, clock, h, _⟩ := h; exact (Array.getElem?_eq_some_iff.1 h).1
theorem Mp.to {w w' : World} {b : Nat} {es : TT} (h : Mp w b es) (hx : Ext w w') : Mp w' b es := by
  obtain ⟨ms, clock, h, h2⟩ := h
  exact ⟨ms, clock, by rw [hx.block b (Array.getElem?_eq_some_iff.1 h).1]; exact h, h2⟩
theorem Mp.wr {w w' : World} {b b' : Nat} {es : TT} (h : Mp w b es) (hw : Wr b' w w') (hne : b ≠ b') : Mp w' b es := by
  obtain ⟨ms, clock, h, h2⟩ := h
  exact ⟨ms, clock, by rw [hw.block b hne]; exact h, h2⟩

theorem isKeyS (x : List UInt8) : MapKept.IsKey .string (S x) := by simp [MapKept.IsKey, S]
theorem S_inj {a b : List UInt8} (h : S a = S b) : a = b := by
  simp only [S, Value.string.injEq, ByteArray.mk.injEq, Array.mk.injEq] at h
  exact h
theorem keysOf {ms : List MapEntry} {es : TT} (h : ms.map (fun e => (e.key, e.val)) = mpC es) : ∀ x ∈ ms, MapKept.IsKey .string x.key := by
  intro x hx
  have : (x.key, x.val) ∈ mpC es := by rw [← h]; exact List.mem_map.2 ⟨x, hx, rfl⟩
  obtain ⟨p, _, hp⟩ := List.mem_map.1 this
  have : x.key = S p.1 := (congrArg Prod.fst hp).symm
  rw [this]; exact isKeyS _
theorem sameNow_S (a b : List UInt8) : Instr.sameNow .string (S a) (S b) = some (decide (a = b)) := by
  show some ((⟨⟨a⟩⟩ : ByteArray) == ⟨⟨b⟩⟩) = _
  congr 1
  by_cases h : a = b
  · subst h; rw [decide_eq_true rfl]; exact (MapKept.bytes_beq _ _).2 rfl
  · rw [decide_eq_false h]
    cases hb : ((⟨⟨a⟩⟩ : ByteArray) == ⟨⟨b⟩⟩) with
    | false => rfl
    | true =>
      have := (MapKept.bytes_beq _ _).1 hb
      simp only [ByteArray.mk.injEq, Array.mk.injEq] at this
      exact absurd this h
theorem findNow_S (x : List UInt8) : ∀ (ms : List MapEntry) (es : TT) (i : Nat), ms.map (fun e => (e.key, e.val)) = mpC es →
    (Instr.findNow .string (S x) ms i = some none ∧ aget es x = none ∧ (∀ y, aput es x y = es ++ [(x, y)])) ∨
    ∃ j e v, Instr.findNow .string (S x) ms i = some (some (i + j, S v)) ∧ aget es x = some v ∧ ms[j]? = some e ∧ e.key = S x ∧ ∀ y, aput es x y = es.set j (x, y)
  | [], [], i, _ => .inl ⟨rfl, rfl, fun _ => rfl⟩
  | [], _ :: _, _, h => by cases h
  | _ :: _, [], _, h => by cases h
  | e :: ms, p :: es, i, h => by
    simp only [mpC, List.map_cons, List.cons.injEq, Prod.mk.injEq] at h
    obtain ⟨⟨hk, hv⟩, hr⟩ := h
    by_cases hx : p.1 = x
    · refine .inr ⟨0, e, p.2, ?_, by simp [aget, hx], rfl, by rw [hk, hx], fun y => by simp [aput, hx]⟩
      simp only [Instr.findNow, hk, sameNow_S, decide_eq_true hx.symm, hv, Nat.add_zero]
    · have hx' : ¬ x = p.1 := fun q => hx q.symm
      have hf : Instr.findNow .string (S x) (e :: ms) i = Instr.findNow .string (S x) ms (i + 1) := by
        simp only [Instr.findNow, hk, sameNow_S, decide_eq_false hx']
      rcases findNow_S x ms es (i + 1) hr with ⟨h1, h2, h3⟩ | ⟨j, e', v, h1, h2, h3, h4, h5⟩
      · exact .inl ⟨by rw [hf, h1], by simp [aget, hx, h2], fun y => by simp [aput, hx, h3]⟩
      · exact .inr ⟨j + 1, e', v, by rw [hf, h1, show i + 1 + j = i + (j + 1) by omega], by simp [aget, hx, h2], by simpa using h3, h4, fun y => by simp [aput, hx, h5]⟩

section
variable {X : Cx} {ops : Array Oper} {e : Env} {w : World} {N : Env → World → Prop} {d : Nat} {c : Option Bool} {ty : TypeId} {pos : String} {af : Array Edge} {g : Option (Nat × Bool)}
theorem Step.makeMap {t : TypeId} (hg : guardE ops e ⟨some d, .makeMap t none, ty, pos, af, g⟩ = some none) (hn : Nat.blt d X.n = true)
    (h : ∀ w', Mp w' w.heap.size [] → w'.heap.size = w.heap.size + 1 → Ext w w' → N ((d, none, .map (some w.heap.size)) :: e) w') : Step X ops ⟨some d, .makeMap t none, ty, pos, af, g⟩ e w N :=
  Step.eff (v := .map (some w.heap.size)) (w' := w.alloc (.map #[] 0)) rfl (by simpa [Nat.blt_eq] using hn) hg (fun _ hh => by cases hh) (fun t' _ => rfl)
    (h _ ⟨[], 0, heap_alloc_new _ _, rfl⟩ (by simp) (Ext.alloc _ _))

theorem Step.lookupM (T : Tb X.P) {x i : Operand} {t kt et : TypeId} {b s by_ : Nat} {k : List UInt8} {es : TT} {ok : Bool}
    (hg : guardE ops e ⟨some d, .lookup t x i ok, ty, pos, af, g⟩ = some c) (hx : Op1 e c x (.map (some b))) (hi : Op1 e c i (S k)) (ht : T.ty t = some (.map kt et)) (hk : T.ty kt = some .string) (hz : T.inf et = some (S [], s, by_))
    (hm : cv c = true → Mp w b es) (hn : Nat.blt d X.n = true)
    (h : N ((d, c, match ok with | true => .tuple ⟨[S ((aget es k).getD []), .bool (aget es k).isSome]⟩ | false => S ((aget es k).getD [])) :: e) w) : Step X ops ⟨some d, .lookup t x i ok, ty, pos, af, g⟩ e w N :=
  Step.quiet rfl (by simpa [Nat.blt_eq] using hn) hg (fun _ hh => by cases hh) (fun t' hf hc => by
    obtain ⟨ms, clock, hb, he⟩ := hm hc
    obtain ⟨inf, hi1, hi2, _⟩ := T.iok _ _ _ _ hz
    have hck := fun (em : Bool) => MapKept.run_checkKey (P := X.P) (w := w) (T.ok _ _ hk) (isKeyS k) em 9999
    simp only [execOp, hx.val hf hc, hi.val hf hc, Instr.lookup, Sem.run_bind, run_underlying (T.ok _ _ ht), Result.andThen_ok, MapKept.run_getObj_map hb, Sem.run_pure, hck]
    rcases findNow_S k ms es 0 he with ⟨h1, h2, _⟩ | ⟨j, e0, v, h1, h2, _, _, _⟩
    · have hf1 := MapKept.run_findKey (P := X.P) (w := w) (T.ok _ _ hk) h1
      simp only [hf1, Result.andThen_ok, Sem.run_bind, zeroValue, typeInfo, run_program, hi1, hi2, Sem.run_pure, h2]
      cases ok <;> rfl
    · have hf1 := MapKept.run_findKey (P := X.P) (w := w) (T.ok _ _ hk) h1
      simp only [hf1, Result.andThen_ok, Sem.run_pure, h2]
      cases ok <;> rfl) h

theorem Step.mapUpdate (T : Tb X.P) {x i y : Operand} {t kt et : TypeId} {b : Nat} {k v : List UInt8} {es : TT}
    (hg : guardE ops e ⟨none, .mapUpdate t x i y, ty, pos, af, g⟩ = some none) (hx : Op1 e none x (.map (some b))) (hi : Op1 e none i (S k)) (hy : Op1 e none y (S v)) (ht : T.ty t = some (.map kt et)) (hk : T.ty kt = some .string)
    (hm : Mp w b es) (h : ∀ w', Mp w' b (aput es k v) → Wr b w w' → N e w') : Step X ops ⟨none, .mapUpdate t x i y, ty, pos, af, g⟩ e w N := by
  obtain ⟨ms, clock, hb, he⟩ := hm
  have hck := MapKept.run_checkKey (P := X.P) (w := w) (T.ok _ _ hk) (isKeyS k) false 9999
  have hwr : ∀ o, Wr b w { w with heap := w.heap.setIfInBounds b o } := fun o => ⟨rfl, rfl, rfl, by simp, fun r' hne => (MapKept.heap_set hb).2 r' hne⟩
  rcases findNow_S k ms es 0 he with ⟨h1, h2, h3⟩ | ⟨j, e0, v0, h1, h2, h3, h4, h5⟩
  · have hf1 := MapKept.run_findKey (P := X.P) (w := w) (T.ok _ _ hk) h1
    refine Step.effNone (w' := { w with heap := w.heap.setIfInBounds b (.map ((⟨ms⟩ : Array MapEntry).push { key := S k, val := S v, born := clock }) (clock + 1)) }) rfl hg (fun _ hh => by cases hh) (fun t' hf => ?_) (h _ ⟨ms ++ [{ key := S k, val := S v, born := clock }], clock + 1, ?_, ?_⟩ (hwr _))
    · simp only [execOp, hx.val hf rfl, hi.val hf rfl, hy.val hf rfl, Instr.mapUpdate, Sem.run_bind, run_underlying (T.ok _ _ ht), Result.andThen_ok, MapKept.run_getObj_map hb, hck, hf1, MapKept.run_setObj_map _ hb, Sem.run_pure]
    · have := (MapKept.heap_set (o' := .map ((⟨ms⟩ : Array MapEntry).push { key := S k, val := S v, born := clock }) (clock + 1)) hb).1
      simpa using this
    · rw [h3, List.map_append, he]; simp [mpC]
  · have hf1 := MapKept.run_findKey (P := X.P) (w := w) (T.ok _ _ hk) h1
    have hst := MapKept.run_keyThatStays (P := X.P) (w := w) (isKeyS k)
    have hj : ((⟨ms⟩ : Array MapEntry)[j]?) = some e0 := by simpa using h3
    refine Step.effNone (w' := { w with heap := w.heap.setIfInBounds b (.map ((⟨ms⟩ : Array MapEntry).modify j fun e => { e with key := S k, val := S v }) clock) }) rfl hg (fun _ hh => by cases hh) (fun t' hf => ?_) (h _ ⟨((⟨ms⟩ : Array MapEntry).modify j fun e => { e with key := S k, val := S v }).toList, clock, ?_, ?_⟩ (hwr _))
    · simp only [execOp, hx.val hf rfl, hi.val hf rfl, hy.val hf rfl, Instr.mapUpdate, Sem.run_bind, run_underlying (T.ok _ _ ht), Result.andThen_ok, MapKept.run_getObj_map hb, hck, hf1, Nat.zero_add, hj, Option.map_some, Option.getD_some, h4, hst, MapKept.run_setObj_map _ hb, Sem.run_pure]
    · exact (MapKept.heap_set hb).1
    · rw [h5]
      apply List.ext_getElem?
      intro i
      have hi := congrArg (fun l => l[i]?) he
      simp only [List.getElem?_map, mpC] at hi
      simp only [List.getElem?_map, Array.getElem?_toList, Array.getElem?_modify, mpC, List.getElem?_set]
      have hlen : ms.length = es.length := by have := congrArg List.length he; simpa [mpC] using this
      have hjl : j < es.length := by rw [← hlen]; exact (List.getElem?_eq_some_iff.1 h3).1
      by_cases hij : j = i
      · subst hij
        rw [if_pos rfl, if_pos rfl, if_pos hjl]
        rw [show ((⟨ms⟩ : Array MapEntry)[j]?) = some e0 from hj]
        rfl
      · rw [if_neg hij, if_neg hij]
        simpa using hi
end
section
variable {X : Cx} {ops : Array Oper} {l : List Oper} {k : List Kt} {e : Env} {w : World} {d : Nat} {c : Option Bool} {ty : TypeId} {pos : String} {af : Array Edge} {g : Option (Nat × Bool)}
theorem sMk {t : TypeId} (h : ∀ w', Mp w' w.heap.size [] → w'.heap.size = w.heap.size + 1 → Ext w w' → GL X ops l k ((d, none, .map (some w.heap.size)) :: e) w')
    (hg : guardE ops e ⟨some d, .makeMap t none, ty, pos, af, g⟩ = some none := by exact rfl) (hn : Nat.blt d X.n = true := by exact rfl) :
    GL X ops (⟨some d, .makeMap t none, ty, pos, af, g⟩ :: l) k e w := GL.cons (Step.makeMap hg hn h)
theorem sLk (T : Tb X.P) {x i : Operand} {t kt et : TypeId} {b s by_ : Nat} {key : List UInt8} {es : TT}
    (h : GL X ops l k ((d, c, S ((aget es key).getD [])) :: e) w)
    (hg : guardE ops e ⟨some d, .lookup t x i false, ty, pos, af, g⟩ = some c := by exact rfl) (hx : Op1 e c x (.map (some b)) := by exact Op1.of rfl (by first | exact fun _ => rfl | exact fun h => h | exact fun h => bL h | exact fun h => bL (bL h))) (hi : Op1 e c i (S key) := by exact Op1.of rfl (by first | exact fun _ => rfl | exact fun h => h | exact fun h => bL h | exact fun h => bL (bL h))) (ht : T.ty t = some (.map kt et) := by exact rfl) (hk : T.ty kt = some .string := by exact rfl) (hz : T.inf et = some (S [], s, by_) := by exact rfl)
    (hm : cv c = true → Mp w b es := by intro _; assumption) (hn : Nat.blt d X.n = true := by exact rfl) :
    GL X ops (⟨some d, .lookup t x i false, ty, pos, af, g⟩ :: l) k e w := GL.cons (Step.lookupM T hg hx hi ht hk hz hm hn h)
theorem sLko (T : Tb X.P) {x i : Operand} {t kt et : TypeId} {b s by_ : Nat} {key : List UInt8} {es : TT}
    (h : GL X ops l k ((d, c, .tuple ⟨[S ((aget es key).getD []), .bool (aget es key).isSome]⟩) :: e) w)
    (hg : guardE ops e ⟨some d, .lookup t x i true, ty, pos, af, g⟩ = some c := by exact rfl) (hx : Op1 e c x (.map (some b)) := by exact Op1.of rfl (by first | exact fun _ => rfl | exact fun h => h | exact fun h => bL h | exact fun h => bL (bL h))) (hi : Op1 e c i (S key) := by exact Op1.of rfl (by first | exact fun _ => rfl | exact fun h => h | exact fun h => bL h | exact fun h => bL (bL h))) (ht : T.ty t = some (.map kt et) := by exact rfl) (hk : T.ty kt = some .string := by exact rfl) (hz : T.inf et = some (S [], s, by_) := by exact rfl)
    (hm : cv c = true → Mp w b es := by intro _; assumption) (hn : Nat.blt d X.n = true := by exact rfl) :
    GL X ops (⟨some d, .lookup t x i true, ty, pos, af, g⟩ :: l) k e w := GL.cons (Step.lookupM T hg hx hi ht hk hz hm hn h)
theorem sMu (T : Tb X.P) {x i y : Operand} {t kt et : TypeId} {b : Nat} {key v : List UInt8} {es : TT}
    (h : ∀ w', Mp w' b (aput es key v) → Wr b w w' → GL X ops l k e w') (hm : Mp w b es)
    (hg : guardE ops e ⟨none, .mapUpdate t x i y, ty, pos, af, g⟩ = some none := by exact rfl) (hx : Op1 e none x (.map (some b)) := by exact Op1.of rfl (by first | exact fun _ => rfl | exact fun h => h | exact fun h => bL h | exact fun h => bL (bL h))) (hi : Op1 e none i (S key) := by exact Op1.of rfl (by first | exact fun _ => rfl | exact fun h => h | exact fun h => bL h | exact fun h => bL (bL h))) (hy : Op1 e none y (S v) := by exact Op1.of rfl (by first | exact fun _ => rfl | exact fun h => h | exact fun h => bL h | exact fun h => bL (bL h))) (ht : T.ty t = some (.map kt et) := by exact rfl) (hk : T.ty kt = some .string := by exact rfl) :
    GL X ops (⟨none, .mapUpdate t x i y, ty, pos, af, g⟩ :: l) k e w := GL.cons (Step.mapUpdate T hg hx hi hy ht hk hm h)
end
theorem post_goto {ρ : Option Nat} {P : Program} {fin : Exit → Act → World → Prop} {l : Nat} {a : Act} {w : World} : ∀ {k : List Kt}, post ρ P fin k (.goto l) a w → fin (.goto l) a w
  | [], h => h
  | .code _ :: k, h => post_goto (k := k) h
  | .lp _ :: k, h => post_goto (k := k) h
  | .blk _ :: k, h => post_goto (k := k) h
/-- a stretch with labels that nobody jumps to -/
theorem G.scope {X : Cx} {k : List Kt} {e : Env} {w : World} {c : Code} {P : Program} {fn : Func} {R : Value → World → Prop} (hX : X.fin = retFin P fn R) (hr : X.ρ = none) (h : G X (.code c :: k) e w) : G X (.code (.scope c) :: k) e w := by
  intro t ht
  have h1 := h t ht
  simp only [post] at h1 ⊢
  rw [hr] at h1 ⊢
  refine (wpIn_wide (n := 0)).2 (wp_scope_straight ((wpIn_wide (n := 0)).1 (wpIn_mono h1 ?_)))
  intro ex a w' hq
  cases ex with
  | goto l =>
    have := post_goto hq
    rw [hX] at this
    exact this.elim
  | _ => exact hq
theorem G.ret3 {X : Cx} {k : List Kt} {e : Env} {w : World} {P : Program} {fn : Func} {R : Value → World → Prop} (hX : X.fin = retFin P fn R) (hd : X.ds = []) {s s' s'' : Nat} {v v' v'' : Value}
    (hr : fn.results = #[.tmp s, .tmp s', .tmp s'']) (hv : look e s = some (none, v)) (hv' : look e s' = some (none, v')) (hv'' : look e s'' = some (none, v'')) (h : R (.tuple ⟨[v, v', v'']⟩) w) : G X (.code .ret :: k) e w := by
  refine G.ret fun t ht => ?_
  rw [hX, hd]
  refine ⟨rfl, _, ?_, _, rfl, h⟩
  rw [results_tmp3 hr, (ht.get _ _ _ hv).2, (ht.get _ _ _ hv').2, (ht.get _ _ _ hv'').2]
  rfl
/-- a result in a box, and one beside it -/
theorem G.retAT {X : Cx} {k : List Kt} {e : Env} {w : World} {P : Program} {fn : Func} {R : Value → World → Prop} (T : Tb P) (hX : X.fin = retFin P fn R) (hd : X.ds = []) {s ty sz b s' : Nat} {z p v : Value} {us : List Value} {td : TypeDesc}
    (hc : CellsAt w p us) (h : R (.tuple ⟨[.agg ⟨us⟩, v]⟩) w) (hr : fn.results = #[.cell s ty, .tmp s']) (hv : look e s = some (none, p)) (hv' : look e s' = some (none, v)) (ht : T.ty ty = some td) (ha : aggT td = true) (hi : T.inf ty = some (z, sz, b)) (hl : us.length = sz) : G X (.code .ret :: k) e w := by
  refine G.ret fun t hf => ?_
  rw [hX, hd]
  refine ⟨rfl, _, ?_, _, rfl, h⟩
  obtain ⟨a, rfl, _, hc⟩ := hc
  subst hl
  have h1 : t.getD s undef = .pointer (some a) := (hf.get _ _ _ hv).2
  have h1' : t.getD s' undef = v := (hf.get _ _ _ hv').2
  have h0 := run_loadCells_list (P := P) w a us hc
  have h2 : (loadVar ty a).run P w = .ok (.agg ⟨us⟩) w := by
    simp only [loadVar, Sem.run_bind, Sem.run_pure, Result.andThen_ok, run_isAgg (T.ok _ _ ht), ha, if_true, run_sizeOf hi, h0]
  simp only [results, hr, List.mapM_toArray, List.mapM_cons, List.mapM_nil, h1, h1', asAddr, Sem.run_bind, Sem.run_map, Sem.run_pure, Result.andThen_ok, h2]
  rfl
end Go.Vg
