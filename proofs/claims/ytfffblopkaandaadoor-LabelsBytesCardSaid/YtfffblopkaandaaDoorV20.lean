/- Stores into rows of one's own; a slice opened up to what lies behind it. -/
import Derived.Test.YtfffblopkaandaaDoorV19
namespace Go.Vg
open Go.RowKit

theorem run_storeCells_t (P : Program) (t : TypeId) : ∀ (vs : List Value) (b o i : Nat) (us : List Value) (w : World), w.heap[b]? = some (.cells ⟨us⟩ t (0, 0)) → o + i + vs.length ≤ us.length → (∀ v ∈ vs, v.oneCell' = true) →
    ∃ w', (storeCells ⟨b, o, none⟩ vs i).run P w = .ok () w' ∧ Wr b w w' ∧ w'.heap[b]? = some (.cells ⟨us.take (o + i) ++ vs ++ us.drop (o + i + vs.length)⟩ t (0, 0))
  | [], b, o, i, us, w, h, _, _ => ⟨w, by simp [storeCells], Wr.refl b w, by simpa using h⟩
  | v :: r, b, o, i, us, w, hb, hl, h1 => by
    simp only [List.length_cons] at hl
    have hc : (w.cell? ⟨b, o + i, none⟩).isSome = true := by
      rw [cell_of_row w b (o + i) ⟨us⟩ t (0, 0) hb]; simp; omega
    obtain ⟨u0, hu0⟩ := Option.isSome_iff_exists.1 hc
    have hf : w.frozen? ⟨b, o + i, none⟩ = false := frozen_of_row w b (o + i) ⟨us⟩ t hb
    have hst := run_store P w ⟨b, o + i, none⟩ v .plain (h1 v (by simp))
    rw [hu0] at hst
    simp only [hf, Bool.false_eq_true, if_false] at hst
    have hb2 : (w.setCell ⟨b, o + i, none⟩ v).heap[b]? = some (.cells ⟨us.set (o + i) v⟩ t (0, 0)) := by
      have := heap_setCell_same w b (o + i) ⟨us⟩ t v hb
      simpa using this
    obtain ⟨w', hr, hw, hx⟩ := run_storeCells_t P t r b o (i + 1) _ _ hb2 (by simp; omega) (fun u hu => h1 u (by simp [hu]))
    refine ⟨w', ?_, (Wr.setCell w b (o + i) v).trans hw, ?_⟩
    · simp only [storeCells, Sem.run_bind, Addr.add_lit, hst, Result.andThen_ok, hr]
    · have e : (us.set (o + i) v).take (o + (i + 1)) ++ r ++ (us.set (o + i) v).drop (o + (i + 1) + r.length) = us.take (o + i) ++ (v :: r) ++ us.drop (o + i + (v :: r).length) := by
        have h3 : o + i < us.length := by omega
        rw [show o + (i + 1) = (o + i) + 1 by omega, List.take_set, List.drop_set_of_lt (by omega)]
        rw [List.take_succ_eq_append_getElem (by simpa using h3)]
        rw [List.set_append_right _ _ (by simp; omega)]
        simp [show min (o + i) us.length = o + i by omega]
        congr 1; omega
      rw [← e]; exact hx

theorem flatten_take {k : Nat} : ∀ (xs : List (List Value)) (j : Nat), (∀ x ∈ xs, x.length = k) → (xs.take j).flatten = xs.flatten.take (j * k)
  | [], j, _ => by simp
  | x :: xs, 0, _ => by simp
  | x :: xs, j + 1, h => by
    have hx := h x (by simp)
    rw [List.take_succ_cons, List.flatten_cons, List.flatten_cons, flatten_take xs j (fun y hy => h y (by simp [hy])), Nat.add_mul, Nat.one_mul, Nat.add_comm, List.take_append_of_le_length' hx]
  where
  List.take_append_of_le_length' {x : List Value} {l : List Value} {k m : Nat} (hx : x.length = k) : (x ++ l).take (k + m) = x ++ l.take m := by
    rw [List.take_append, List.take_of_length_le (by omega)]
    congr 2; omega
theorem flatten_drop {k : Nat} (xs : List (List Value)) (j : Nat) (h : ∀ x ∈ xs, x.length = k) : (xs.drop j).flatten = xs.flatten.drop (j * k) := by
  have h1 := flatten_take xs j h
  have h2 : xs.flatten = (xs.take j).flatten ++ (xs.drop j).flatten := by rw [← List.flatten_append, List.take_append_drop]
  by_cases hj : j ≤ xs.length
  · have hl : (xs.take j).flatten.length = j * k := by
      rw [flatten_length _ (fun x hx => h x (List.mem_of_mem_take hx)), List.length_take, Nat.min_eq_left hj]
    rw [h2, List.drop_append_of_le_length (by omega), List.drop_of_length_le (l := (xs.take j).flatten) (by omega), List.nil_append]
  · rw [List.drop_of_length_le (by omega), List.flatten_nil, List.drop_of_length_le]
    rw [flatten_length _ h]; exact Nat.mul_le_mul_right _ (by omega)
theorem flatten_set {k : Nat} (xs : List (List Value)) (j : Nat) (x : List Value) (h : ∀ x ∈ xs, x.length = k) (hx : x.length = k) (hj : j < xs.length) :
    (xs.set j x).flatten = xs.flatten.take (j * k) ++ x ++ xs.flatten.drop (j * k + k) := by
  have e : xs.set j x = xs.take j ++ x :: xs.drop (j + 1) := by
    rw [List.set_eq_take_append_cons_drop, if_pos hj]
  rw [e, List.flatten_append, List.flatten_cons, flatten_take xs j h, flatten_drop xs (j + 1) h, Nat.add_mul, Nat.one_mul, List.append_assoc]

theorem Grew.trans {B : Nat} {u : Value} {w w1 w2 : World} (h : Grew B u w w1) (k : Grew B u w1 w2) : Grew B u w w2 :=
  ⟨fun w0 hb => k.below _ (h.below _ hb), Nat.le_trans h.size k.size, fun q hq hne => (k.block q (Nat.lt_of_lt_of_le hq h.size) hne).trans (h.block q hq hne)⟩
theorem Grew.ofExt {B : Nat} {u : Value} {w w1 : World} (h : Ext w w1) (hB : B ≤ w.heap.size) : Grew B u w w1 :=
  ⟨fun _ hb => Below.ext hb h hB, h.size, fun q hq _ => h.block q hq⟩
theorem Grew.refl (B : Nat) (u : Value) (w : World) : Grew B u w w := ⟨fun _ h => h, Nat.le_refl _, fun _ _ _ => rfl⟩

/-- the result lies in a box -/
theorem resA {P : Program} {fn : Func} {n : Nat} {e : Env} {t : Array Value} (T : Tb P) (hf : Fits n e t) {s ty sz b : Nat} {z p : Value} {us : List Value} {d : TypeDesc} (hr : fn.results = #[.cell s ty]) (hv : look e s = some (none, p))
    (ht : T.ty ty = some d) (ha : aggT d = true) (hi : T.inf ty = some (z, sz, b)) (hl : us.length = sz) {w : World} (hc : CellsAt w p us) : (results fn t).run P w = .ok (.agg ⟨us⟩) w := by
  obtain ⟨a, rfl, _, hc⟩ := hc
  subst hl
  have h1 : t.getD s undef = .pointer (some a) := (hf.get _ _ _ hv).2
  have h0 := run_loadCells_list (P := P) w a us hc
  have h2 : (loadVar ty a).run P w = .ok (.agg ⟨us⟩) w := by
    simp only [loadVar, Sem.run_bind, Sem.run_pure, Result.andThen_ok, run_isAgg (T.ok _ _ ht), ha, if_true, run_sizeOf hi, h0]
  simp only [results, hr, List.mapM_toArray, List.mapM_cons, List.mapM_nil, h1, asAddr, Sem.run_bind, Sem.run_map, Sem.run_pure, Result.andThen_ok, h2]
  rfl
theorem G.retA {X : Cx} {k : List Kt} {e : Env} {w : World} {P : Program} {fn : Func} {R : Value → World → Prop} (T : Tb P) (hX : X.fin = retFin P fn R) (hd : X.ds = []) {s ty sz b : Nat} {z p : Value} {us : List Value} {td : TypeDesc}
    (hc : CellsAt w p us) (h : R (.agg ⟨us⟩) w) (hr : fn.results = #[.cell s ty]) (hv : look e s = some (none, p)) (ht : T.ty ty = some td) (ha : aggT td = true) (hi : T.inf ty = some (z, sz, b)) (hl : us.length = sz) : G X (.code .ret :: k) e w := by
  refine G.ret fun t hf => ?_
  rw [hX, hd]
  exact ⟨rfl, _, resA T hf hr hv ht ha hi hl hc, _, rfl, h⟩

section
variable {X : Cx} {ops : Array Oper} {l : List Oper} {kk : List Kt} {e : Env} {w : World} {N : Env → World → Prop} {d : Nat} {c : Option Bool} {ty : TypeId} {pos : String} {af : Array Edge} {g : Option (Nat × Bool)}

/-- an element of a row of one's own is stored -/
theorem Step.storeRow (T : Tb X.P) {x y : Operand} {t : TypeId} {v u z : Value} {vs : List Value} {k by_ B et j : Nat} {xs : List (List Value)} (hg : guardE ops e ⟨none, .store t x y, ty, pos, af, g⟩ = some none)
    (hx : Op1 e none x (padd v (j * k))) (hy : Op1 e none y u) (hi : T.inf t = some (z, k, by_)) (hv : u.cells = ⟨vs⟩) (hs : vs.length = k) (h1 : ∀ v ∈ vs, v.oneCell' = true)
    (ho : Owns w B v et k xs) (hj : j < xs.length)
    (h : ∀ w', Owns w' B v et k (xs.set j vs) → Grew B v w w' → N e w') : Step X ops ⟨none, .store t x y, ty, pos, af, g⟩ e w N := by
  have ho' := ho
  obtain ⟨⟨hl, hr⟩, hk, hb⟩ := ho
  rcases hr with ⟨rfl, hn⟩ | ⟨gb, cap, ⟨us⟩, rfl, hB, hgb, hc, hm, hsz, htk⟩
  · omega
  · have hle : xs.length * k ≤ cap * k := Nat.mul_le_mul_right _ hc
    have hjk : (j + 1) * k ≤ xs.length * k := Nat.mul_le_mul_right _ hj
    rw [Nat.add_mul, Nat.one_mul] at hjk
    have hus : us.length = cap * k := hsz
    simp only at htk
    obtain ⟨w', hrun, hw, hx'⟩ := run_storeCells_t X.P et vs gb (j * k) 0 us w hgb (by omega) h1
    rw [Nat.add_zero, hs] at hx'
    refine Step.effNone rfl hg (fun _ hh => by cases hh) (w' := w') (fun t' hf => ?_) (h w' ?_ ?_)
    · have hp : padd (Value.slice (some ⟨gb, 0, none⟩) xs.length cap) (j * k) = .pointer (some ⟨gb, j * k, none⟩) := by simp [padd, Addr.add_lit]
      have hsz' : ¬ ((⟨vs⟩ : Array Value).size ≠ k) := by simp [hs]
      simp only [execOp, hx.val hf rfl, hy.val hf rfl, hp, Instr.storeAt, Instr.sureAddr, storeVar, Sem.run_bind, Sem.run_pure, Result.andThen_ok, run_sizeOf hi, hv, if_neg hsz', hrun]
    · have hfl := flatten_set xs j vs hk hs hj
      refine ⟨⟨?_, .inr ⟨gb, cap, _, by rw [List.length_set], hB, hx', by rw [List.length_set]; exact hc, hm, ?_, ?_⟩⟩, ?_, by rw [List.length_set]; exact hb⟩
      · rw [flatten_length _ (fun y hy => by
          rcases List.mem_or_eq_of_mem_set hy with hy | rfl
          · exact hk y hy
          · exact hs)]
      · simp only [List.size_toArray, List.length_append, List.length_take, List.length_drop]; omega
      · rw [List.length_set, hfl, ← htk]
        simp only [List.append_assoc]
        rw [List.take_append, List.length_take, Nat.min_eq_left (by omega), List.take_of_length_le (by rw [List.length_take]; omega), List.take_append, hs, List.take_of_length_le (l := vs) (by omega), List.take_take, Nat.min_eq_left (by omega)]
        congr 2
        rw [List.drop_take]
        congr 1; omega
      · intro y hy
        rcases List.mem_or_eq_of_mem_set hy with hy | rfl
        · exact hk y hy
        · exact hs
    · exact ⟨fun w0 hb0 => hb0.wr hw hB, by rw [hw.size]; exact Nat.le_refl _, fun q hq hne => hw.block q (fun e => hne (by rw [e]; rfl))⟩
theorem sStR (T : Tb X.P) {x y : Operand} {t : TypeId} {v u z : Value} {vs : List Value} {k by_ B et j : Nat} {xs : List (List Value)} (ho : Owns w B v et k xs) (hj : j < xs.length)
    (h : ∀ w', Owns w' B v et k (xs.set j vs) → Grew B v w w' → GL X ops l kk e w') (hg : guardE ops e ⟨none, .store t x y, ty, pos, af, g⟩ = some none := by exact rfl)
    (hx : Op1 e none x (padd v (j * k)) := by exact Op1.of rfl (fun _ => rfl)) (hy : Op1 e none y u := by exact Op1.of rfl (fun _ => rfl)) (hi : T.inf t = some (z, k, by_) := by exact rfl) (hv : u.cells = ⟨vs⟩ := by exact rfl) (hs : vs.length = k := by exact rfl) (h1 : ∀ v ∈ vs, v.oneCell' = true := by simp [Value.oneCell', S, U]) :
    GL X ops (⟨none, .store t x y, ty, pos, af, g⟩ :: l) kk e w := GL.cons (Step.storeRow T hg hx hy hi hv hs h1 ho hj h)

/-- a slice cut at its front, opened again to all of it -/
theorem Step.sliceUp (T : Tb X.P) {x j : Operand} {st et : TypeId} {v z : Value} {k by_ : Nat} {n : Int} {xs : List (List Value)} (b : Nat)
    (hg : guardE ops e ⟨some d, .slice st x none (some j) none, ty, pos, af, g⟩ = some c)
    (hx : Op1 e c x (subS v k 0 b)) (hhi : Op1 e c j (.int .i64 n)) (ht : T.ty st = some (.slice et)) (hz : T.inf et = some (z, k, by_))
    (hs : ∃ w, Sli w v k xs) (hk : cv c = true → n = xs.length) (hn : Nat.blt d X.n = true)
    (h : N ((d, c, v) :: e) w) : Step X ops ⟨some d, .slice st x none (some j) none, ty, pos, af, g⟩ e w N :=
  Step.quiet rfl (by simpa [Nat.blt_eq] using hn) hg (fun _ hh => by cases hh) (fun t hf hc => by
    obtain rfl := hk hc
    obtain ⟨w0, hs⟩ := hs
    have hT := T.ok _ _ ht
    have hv0 : ∃ a cap, v = .slice a xs.length cap ∧ xs.length ≤ cap ∧ ∀ a', a = some a' → a'.spot = none := by
      rcases hs with ⟨rfl, rfl⟩ | ⟨a, cap, rfl, h2, h3, _⟩
      · exact ⟨none, 0, rfl, Nat.le_refl _, fun _ hh => by cases hh⟩
      · exact ⟨some a, cap, rfl, h3, fun _ hh => by cases hh; exact h2⟩
    obtain ⟨a, cap, rfl, hcap, hsp⟩ := hv0
    have hb1 : ∀ code, (Instr.sliceBound (.int .i64 xs.length) cap code).run X.P w = .ok xs.length w := fun code => by
      have := run_sliceBound (P := X.P) w .i64 (xs.length : Int) cap code (by omega) (by omega)
      simpa using this
    have ha : (if cap = 0 then a else a.map (·.add (0 * k))) = a := by
      split
      · rfl
      · cases a with
        | none => rfl
        | some a => simp [Addr.add_zero]
    have h3 : (Instr.sliceAt st (subS (.slice a xs.length cap) k 0 b) none (some (.int .i64 xs.length)) none).run X.P w = .ok (.slice a xs.length cap) w := by
      simp only [subS, ha, Nat.sub_zero, Instr.sliceAt, Sem.run_bind, run_underlying hT, Result.andThen_ok, Instr.slice, Instr.sliceBounds, Sem.run_pure]
      have ha' : a.map (·.add 0) = a := by
        cases a with
        | none => rfl
        | some a => simp [Addr.add_zero]
      simp [hb1, run_sizeOf hz, ha']
    simp only [execOp, hx.val hf hc, hhi.val hf hc, Option.map_some, Option.map_none, Sem.run_bind, h3, Result.andThen_ok, Sem.run_pure]) h
end
end Go.Vg
