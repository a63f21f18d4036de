/- Rows that the call itself owns: append, composite literals, cutting; structs compared. -/
import Derived.Test.YtfffblopkaandaaDoorV6
namespace Go.Vg
open Go.RowKit

/-- a slice that the call made, from block B on: its elements -/
def Owns (w : World) (B : Nat) (v : Value) (et k : Nat) (xs : List (List Value)) : Prop :=
  w.ownsRow B et k v xs.length xs.flatten ∧ (∀ x ∈ xs, x.length = k) ∧ xs.length ≤ 140737488355328

theorem flatten_length {k : Nat} : ∀ (xs : List (List Value)), (∀ x ∈ xs, x.length = k) → xs.flatten.length = xs.length * k
  | [], _ => by simp
  | x :: r, h => by
    rw [List.flatten_cons, List.length_append, flatten_length r (fun y hy => h y (by simp [hy])), h x (by simp), List.length_cons, Nat.succ_mul]; omega

theorem flatten_get {k : Nat} : ∀ (xs : List (List Value)), (∀ x ∈ xs, x.length = k) → ∀ i x, xs[i]? = some x → ∀ j u, x[j]? = some u → xs.flatten[i * k + j]? = some u
  | [], _, i, x, h, _, _, _ => by simp at h
  | y :: r, hl, 0, x, h, j, u, hu => by
    simp only [List.getElem?_cons_zero, Option.some.injEq] at h
    subst h
    have : j < y.length := (List.getElem?_eq_some_iff.1 hu).1
    rw [List.flatten_cons, Nat.zero_mul, Nat.zero_add, List.getElem?_append_left this]; exact hu
  | y :: r, hl, i + 1, x, h, j, u, hu => by
    simp only [List.getElem?_cons_succ] at h
    have ih := flatten_get r (fun z hz => hl z (by simp [hz])) i x h j u hu
    have hy : y.length = k := hl y (by simp)
    rw [List.flatten_cons, List.getElem?_append_right (by rw [hy, Nat.succ_mul]; omega), hy, Nat.succ_mul]
    rw [show i * k + k + j - k = i * k + j by omega]; exact ih

theorem Owns.sli {w : World} {B : Nat} {v : Value} {et k : Nat} {xs : List (List Value)} (h : Owns w B v et k xs) : Sli w v k xs := by
  obtain ⟨⟨hl, h⟩, hk, hb⟩ := h
  rcases h with ⟨rfl, hn⟩ | ⟨g, cap, cur, rfl, hB, hg, hc, hm, hs, ht⟩
  · exact .inl ⟨rfl, List.length_eq_zero_iff.1 hn⟩
  · refine .inr ⟨⟨g, 0, none⟩, cap, rfl, rfl, hc, hk, fun i x hx j u hu => ?_, by omega⟩
    rw [Addr.add_lit, Nat.zero_add, cell_of_row w g _ cur et (0, 0) hg]
    have h1 := flatten_get xs hk i x hx j u hu
    rw [← ht] at h1
    have h2 : i * k + j < xs.length * k := by
      have := (List.getElem?_eq_some_iff.1 h1).1
      simp at this; omega
    rw [List.getElem?_take_of_lt h2] at h1
    simpa using h1

theorem Owns.nil (w : World) (B et k : Nat) : Owns w B (.slice none 0 0) et k [] := ⟨World.ownsRow_nil w B et k, by simp, by simp⟩
theorem Owns.to {w w' : World} {B : Nat} {v : Value} {et k : Nat} {xs : List (List Value)} (h : Owns w B v et k xs) (hx : Ext w w') : Owns w' B v et k xs := by
  obtain ⟨⟨hl, h⟩, hk⟩ := h
  refine ⟨⟨hl, ?_⟩, hk⟩
  rcases h with h | ⟨g, cap, cur, h1, h2, h3, h4⟩
  · exact .inl h
  · exact .inr ⟨g, cap, cur, h1, h2, by rw [hx.block g (Array.getElem?_eq_some_iff.1 h3).1]; exact h3, h4⟩
theorem Owns.kept {w w' : World} {l B : Nat} {v : Value} {et k : Nat} {xs : List (List Value)} (h : Owns w B v et k xs) (hx : Kept l w w') : Owns w' B v et k xs := by
  obtain ⟨⟨hl, h⟩, hk⟩ := h
  refine ⟨⟨hl, ?_⟩, hk⟩
  rcases h with h | ⟨g, cap, cur, h1, h2, h3, h4⟩
  · exact .inl h
  · exact .inr ⟨g, cap, cur, h1, h2, hx.block h3 (fun _ hh => by cases hh), h4⟩
theorem Owns.wr {w w' : World} {b B : Nat} {v : Value} {et k : Nat} {xs : List (List Value)} (h : Owns w B v et k xs) (hx : Wr b w w') (hb : b < B) : Owns w' B v et k xs := by
  obtain ⟨⟨hl, h⟩, hk⟩ := h
  refine ⟨⟨hl, ?_⟩, hk⟩
  rcases h with h | ⟨g, cap, cur, h1, h2, h3, h4⟩
  · exact .inl h
  · exact .inr ⟨g, cap, cur, h1, h2, by rw [hx.block g (by omega)]; exact h3, h4⟩
theorem Owns.mono {w : World} {B B' : Nat} {v : Value} {et k : Nat} {xs : List (List Value)} (h : Owns w B v et k xs) (hB : B' ≤ B) : Owns w B' v et k xs := by
  obtain ⟨⟨hl, h⟩, hk⟩ := h
  refine ⟨⟨hl, ?_⟩, hk⟩
  rcases h with h | ⟨g, cap, cur, h1, h2, h4⟩
  · exact .inl h
  · exact .inr ⟨g, cap, cur, h1, by omega, h4⟩
theorem Owns.cells {w : World} {B : Nat} {v : Value} {et k : Nat} {xs : List (List Value)} (h : Owns w B v et k xs) : v.cells = ⟨[v]⟩ := h.sli.cells

/-- behind an append: blocks below B as they were, and all others but the row's own -/
structure Grew (B : Nat) (v : Value) (w w' : World) : Prop where
  below : ∀ w0, Below B w0 w → Below B w0 w'
  size : w.heap.size ≤ w'.heap.size
  block : ∀ k, k < w.heap.size → some k ≠ v.ownBlock → w'.heap[k]? = w.heap[k]?
theorem Bx.grew {w w' : World} {B b : Nat} {v : Value} {us : List Value} (h : Bx w b us) (hg : Grew B v w w') (hne : some b ≠ v.ownBlock) : Bx w' b us := by
  obtain ⟨t, h⟩ := h
  exact ⟨t, by rw [hg.block b (Array.getElem?_eq_some_iff.1 h).1 hne]; exact h⟩
theorem Owns.ne {w : World} {B b : Nat} {v : Value} {et k : Nat} {xs : List (List Value)} (h : Owns w B v et k xs) (hb : b < B) : some b ≠ v.ownBlock := by
  rcases h.1.2 with ⟨rfl, _⟩ | ⟨g, cap, cur, rfl, h2, _⟩
  · simp [Value.ownBlock]
  · simp [Value.ownBlock]; omega
theorem Owns.lp {w w' : World} {B l r : Nat} {rc : Loop} {v : Value} {et k : Nat} {xs : List (List Value)} (h : Owns w B v et k xs) (hl : Lp l r rc w) (hg : Grew B v w w') : Lp l r rc w' := by
  have ne : ∀ b o, w.heap[b]? = some o → (∀ c t f, o ≠ .cells c t f) → some b ≠ v.ownBlock := by
    intro b o hb ho e
    rcases h.1.2 with ⟨rfl, _⟩ | ⟨g, cap, cur, rfl, _, h3, _⟩
    · simp [Value.ownBlock] at e
    · simp only [Value.ownBlock, Option.some.injEq] at e
      subst e
      rw [hb] at h3
      exact ho _ _ _ (Option.some.inj h3)
  exact ⟨by rw [hg.block l (Array.getElem?_eq_some_iff.1 hl.rcd).1 (ne l _ hl.rcd (fun _ _ _ hh => by cases hh))]; exact hl.rcd,
    by rw [hg.block r (Array.getElem?_eq_some_iff.1 hl.dfr).1 (ne r _ hl.dfr (fun _ _ _ hh => by cases hh))]; exact hl.dfr⟩

section steps
variable {X : Cx} {ops : Array Oper} {e : Env} {w : World} {N : Env → World → Prop} {d : Nat} {c : Option Bool} {ty : TypeId} {pos : String} {af : Array Edge} {g : Option (Nat × Bool)}

theorem run_builtin2 {ρ : Operand → Value} {b : Builtin} {x y : Operand} {t1 t2 ty : TypeId} {u v r : Value} {w' : World} {P : Program} {d : Option Tmp} (hx : ρ x = u) (hy : ρ y = v)
    (h : ∀ cs, (builtin b #[t1, t2] ty cs #[u, v]).run P w = .ok (.value r) w') :
    (execOp ρ ⟨d, .call { callee := .builtin b, args := #[x, y], argTypes := #[t1, t2] }, ty, pos, af, g⟩).run P w = .ok (.value r) w' := by
  simp only [execOp, resolve, invoke, Sem.run_bind, Sem.run_pure, Result.andThen_ok, List.map_toArray, List.map_cons, List.map_nil, hx, hy]
  exact h _

theorem Step.append (T : Tb X.P) {x y : Operand} {t et : TypeId} {v u z : Value} {k bytes B : Nat} {xs ys : List (List Value)}
    (hg : guardE ops e ⟨some d, .call { callee := .builtin .append, args := #[x, y], argTypes := #[t, t] }, ty, pos, af, g⟩ = some none)
    (hx : Op1 e none x v) (hy : Op1 e none y u) (ht : T.ty t = some (.slice et)) (hi : T.inf et = some (z, k, bytes)) (hk : Nat.blt 0 k = true) (hz : z.cells.size = k)
    (hv : Owns w B v et k xs) (hu : Sli w u k ys) (h1 : ∀ y ∈ ys, ∀ c ∈ y, c.oneCell' = true) (hb : (xs.length + ys.length) * bytes ≤ 140737488355328) (hl : xs.length + ys.length ≤ 140737488355328)
    (hB : B ≤ w.heap.size) (hn : Nat.blt d X.n = true)
    (h : ∀ v' w', Owns w' B v' et k (xs ++ ys) → Grew B v w w' → N ((d, none, v') :: e) w') :
    Step X ops ⟨some d, .call { callee := .builtin .append, args := #[x, y], argTypes := #[t, t] }, ty, pos, af, g⟩ e w N := by
  obtain ⟨i, hi1, hi2, hi3, hi4⟩ := T.iok _ _ _ _ hi
  have hT := T.ok _ _ ht
  have hk' : 0 < k := by simpa [Nat.blt_eq] using hk
  rcases hu with ⟨rfl, rfl⟩ | ⟨a, cap, rfl, hs, hc, hyl, hcell, hyb⟩
  · have hr := run_append_owned_none (P := X.P) w B t ty et i k hT hi1 v xs.length xs.flatten hv.1
    refine Step.eff (v := v) (w' := w) rfl (by simpa [Nat.blt_eq] using hn) hg (fun _ hh => by cases hh) (fun t' hf => run_builtin2 (hx.val hf rfl) (hy.val hf rfl) fun cs => ?_) (h v w (by simpa using hv) ⟨fun _ h => h, Nat.le_refl _, fun _ _ _ => rfl⟩)
    simp only [builtin, Sem.run_bind, hr, Result.andThen_ok, Sem.run_pure]
  · have hfl := flatten_length ys hyl
    obtain ⟨v', w', hr, h2, h3, _⟩ := run_append_own (P := X.P) w B t ty et i z k bytes hT hi1 hi2 hi3 hi4 hz hk' v xs.length xs.flatten hv.1 a ys.length cap ys.flatten hfl
      (fun j u hj => by
        have hj' : j < ys.length * k := by rw [← hfl]; exact (List.getElem?_eq_some_iff.1 hj).1
        have hq : j / k < ys.length := Nat.div_lt_of_lt_mul (by rw [Nat.mul_comm]; exact hj')
        have hyq : ys[j / k]? = some ys[j / k] := List.getElem?_eq_getElem hq
        have hlen : (ys[j / k]).length = k := hyl _ (List.getElem_mem hq)
        have hr' : j % k < (ys[j / k]).length := by rw [hlen]; exact Nat.mod_lt _ hk'
        have hu2 := List.getElem?_eq_getElem hr'
        have e1 : j / k * k + j % k = j := by rw [Nat.mul_comm]; exact Nat.div_add_mod j k
        have h5 := flatten_get ys hyl _ _ hyq _ _ hu2
        rw [e1, hj] at h5
        cases h5
        have := hcell _ _ hyq _ _ hu2
        rwa [e1] at this)
      (fun u hu => by obtain ⟨y, hy, hu'⟩ := List.mem_flatten.1 hu; exact h1 y hy u hu') (by unfold maxLen; omega) hb hB
    have hown : Owns w' B v' et k (xs ++ ys) := by
      refine ⟨?_, ?_, by simpa using hl⟩
      · rw [List.length_append, List.flatten_append]; exact h2
      · intro x hx
        rcases List.mem_append.1 hx with hx | hx
        · exact hv.2.1 x hx
        · exact hyl x hx
    refine Step.eff (v := v') (w' := w') rfl (by simpa [Nat.blt_eq] using hn) hg (fun _ hh => by cases hh) (fun t' hf => run_builtin2 (hx.val hf rfl) (hy.val hf rfl) fun cs => ?_)
      (h v' w' hown ⟨fun w0 hb0 => hb0.grown h3 hB (fun k hk => by
        rcases hv.1.2 with ⟨rfl, _⟩ | ⟨g, cap, cur, rfl, hBg, _⟩
        · simp [Value.ownBlock] at hk
        · simp [Value.ownBlock] at hk; omega), h3.size, h3.block⟩)
    simp only [builtin, Sem.run_bind, hr, Result.andThen_ok, Sem.run_pure]

/-- operands with their places -/
def evps (e : Env) : List (Nat × Operand) → Option (List (Nat × Value))
  | [] => some []
  | (i, x) :: r => match ev e x with
    | some (none, v) => match evps e r with
      | some l => some ((i, v) :: l)
      | none => none
    | _ => none
theorem evps_map {n : Nat} {t : Array Value} {ds : List Deferred} (hf : Fits n e t) : ∀ {l : List (Nat × Operand)} {vs : List (Nat × Value)}, evps e l = some vs → l.map (fun p => (p.1, (Act.mk t ds).eval p.2)) = vs
  | [], vs, h => by cases h; rfl
  | (i, x) :: r, vs, h => by
    simp only [evps] at h
    split at h
    · rename_i v hv
      split at h
      · rename_i l hl
        cases h
        simp only [List.map_cons, evps_map hf hl, hf.ev1 hv rfl]
      · cases h
    · cases h

def zeros (z : List Value) (n : Nat) : List Value := (List.range n).map fun i => z.getD (i % z.length) undef

theorem Step.buildSlice (T : Tb X.P) {t et : TypeId} {n k bytes : Nat} {z : Value} {zs : List Value} {parts : Array (Nat × Operand)} {l : List (Nat × Operand)} {vs : List (Nat × Value)} (xs : List (List Value))
    (hg : guardE ops e ⟨some d, .buildSlice t n parts, ty, pos, af, g⟩ = some none)
    (hp : parts = ⟨l⟩) (hvs : evps e l = some vs) (ht : T.ty t = some (.slice et)) (hi : T.inf et = some (z, k, bytes)) (hz : z.cells = ⟨zs⟩) (hzl : zs.length = k) (hk : Nat.blt 0 k = true)
    (hfill : Instr.fill (fun i => some (i * k, k)) ⟨if n * k = 0 then [] else zeros zs (n * k)⟩ vs = some ⟨xs.flatten⟩) (hsm : Nat.ble (n * k) 1000 = true)
    (hlen : xs.length = n) (hkl : ∀ x ∈ xs, x.length = k) (hn : Nat.blt d X.n = true)
    (h : ∀ v w', Owns w' w.heap.size v et k xs → w'.heap.size = w.heap.size + 1 → Ext w w' → N ((d, none, v) :: e) w') :
    Step X ops ⟨some d, .buildSlice t n parts, ty, pos, af, g⟩ e w N := by
  obtain ⟨i, hi1, hi2, hi3, hi4⟩ := T.iok _ _ _ _ hi
  have hT := T.ok _ _ ht
  have hsm' : n * k ≤ 1000 := by simpa using hsm
  have hk' : 0 < k := by simpa [Nat.blt_eq] using hk
  have hfl := flatten_length xs hkl
  refine Step.eff (v := .slice (some ⟨w.heap.size, 0, none⟩) n n) (w' := w.alloc (.cells ⟨xs.flatten⟩ et)) rfl (by simpa [Nat.blt_eq] using hn) hg (fun _ hh => by cases hh) (fun t' hf => ?_)
    (h _ _ ⟨⟨by rw [hfl, hlen], .inr ⟨w.heap.size, n, ⟨xs.flatten⟩, by rw [hlen], Nat.le_refl _, heap_alloc_new _ _, by omega, ?_, ?_, ?_⟩⟩, hkl, ?_⟩ (by simp) (Ext.alloc _ _))
  · have h1 := evps_map (ds := X.ds) hf hvs
    subst hp
    have h2 : (Array.mk l).map (fun x : Nat × Operand => match x with | (i, x) => (i, (Act.mk t' X.ds).eval x)) = ⟨vs⟩ := by
      rw [show (fun x : Nat × Operand => match x with | (i, x) => (i, (Act.mk t' X.ds).eval x)) = (fun p => (p.1, (Act.mk t' X.ds).eval p.2)) from rfl]
      simp [h1]
    have hnb : ¬ n * k > 2 ^ 24 := by omega
    have hcells : (Array.range (n * k)).map ((if n * k = 0 then (#[] : Array Value) else ⟨zs⟩)[· % (if n * k = 0 then (#[] : Array Value) else ⟨zs⟩).size]!) = ⟨if n * k = 0 then [] else zeros zs (n * k)⟩ := by
      by_cases h0 : n * k = 0
      · simp [h0]
      · simp only [h0, if_false]
        apply Array.ext'
        simp only [zeros, Array.toList_map, Array.toList_range]
        refine List.map_congr_left fun a _ => ?_
        have ha : a % zs.length < zs.length := Nat.mod_lt _ (by omega)
        have ha' : a % (Array.mk zs).size < (Array.mk zs).size := ha
        rw [getElem!_pos (Array.mk zs) (a % (Array.mk zs).size) ha']
        simp [List.getD, ha]
    simp only [execOp, Instr.buildSlice, h2, Sem.run_bind, run_underlying hT, Result.andThen_ok, run_sizeOf hi, if_neg hnb]
    by_cases h0 : n * k = 0
    · simp only [h0, if_true] at hcells hfill
      simp only [h0, if_true, Sem.run_bind, Sem.run_pure, Result.andThen_ok, hcells, hfill, newRow, run_newObj]
      rfl
    · simp only [h0, if_false] at hcells hfill
      have hz' : (zeroValue et).run X.P w = .ok z w := by simp [zeroValue, typeInfo, hi1, hi2]
      simp only [h0, if_false, Sem.run_bind, Sem.run_pure, Result.andThen_ok, hz', hz, hcells, hfill, newRow, run_newObj]
      rfl
  · unfold maxLen
    have := Nat.le_mul_of_pos_right n hk'; omega
  · simp [hfl, hlen]
  · exact List.take_of_length_le (by rw [hfl, hlen]; exact Nat.le_refl _)
  · have := Nat.le_mul_of_pos_right n hk'; omega
theorem Step.build (T : Tb X.P) {t k bytes : Nat} {z : Value} {zs us : List Value} {fs : Array Field} {parts : Array (Nat × Operand)} {l : List (Nat × Operand)} {vs : List (Nat × Value)} {pl : List (Nat × Nat)}
    (hg : guardE ops e ⟨some d, .build t parts, ty, pos, af, g⟩ = some none)
    (hp : parts = ⟨l⟩) (hvs : evps e l = some vs) (ht : T.ty t = some (.struct fs)) (hi : T.inf t = some (z, k, bytes)) (hz : z.cells = ⟨zs⟩)
    (hpl : fs.toList.mapM (fun f => (T.inf f.type).map fun i => (f.offset, i.2.1)) = some pl)
    (hfill : Instr.fill (fun i => pl[i]?) ⟨zs⟩ vs = some ⟨us⟩) (hn : Nat.blt d X.n = true)
    (h : N ((d, none, .agg ⟨us⟩) :: e) w) : Step X ops ⟨some d, .build t parts, ty, pos, af, g⟩ e w N := by
  obtain ⟨i, hi1, hi2, hi3, hi4⟩ := T.iok _ _ _ _ hi
  have hT := T.ok _ _ ht
  have hz' : (zeroValue t).run X.P w = .ok z w := by simp [zeroValue, typeInfo, hi1, hi2]
  have hmap : ∀ (l : List Field) (pl : List (Nat × Nat)), l.mapM (fun f => (T.inf f.type).map fun i => (f.offset, i.2.1)) = some pl →
      (l.mapM (fun f => (do pure (f.offset, ← sizeOf f.type) : Sem (Nat × Nat)))).run X.P w = .ok pl w := by
    intro l
    induction l with
    | nil => intro pl h; simp at h; subst h; rfl
    | cons f r ih =>
      intro pl h
      simp only [List.mapM_cons] at h
      cases hf : T.inf f.type with
      | none => rw [hf] at h; cases h
      | some p =>
        obtain ⟨z0, s0, b0⟩ := p
        rw [hf] at h
        cases hr : r.mapM (fun f => (T.inf f.type).map fun i => (f.offset, i.2.1)) with
        | none => rw [hr] at h; cases h
        | some pl' =>
          rw [hr] at h
          cases h
          simp only [List.mapM_cons, Sem.run_bind, run_sizeOf hf, Result.andThen_ok, Sem.run_pure, ih pl' hr]
  refine Step.quiet rfl (by simpa [Nat.blt_eq] using hn) hg (fun _ hh => by cases hh) (fun t' hf _ => ?_) h
  have h1 := evps_map (ds := X.ds) hf hvs
  subst hp
  have h2 : (Array.mk l).map (fun x : Nat × Operand => match x with | (i, x) => (i, (Act.mk t' X.ds).eval x)) = ⟨vs⟩ := by
    rw [show (fun x : Nat × Operand => match x with | (i, x) => (i, (Act.mk t' X.ds).eval x)) = (fun p => (p.1, (Act.mk t' X.ds).eval p.2)) from rfl]
    simp [h1]
  have hm := hmap fs.toList pl hpl
  have hm2 : (fs.mapM (fun f => (do pure (f.offset, ← sizeOf f.type) : Sem (Nat × Nat)))).run X.P w = .ok ⟨pl⟩ w := by
    have : fs = ⟨fs.toList⟩ := rfl
    rw [this, List.mapM_toArray]
    simp only [Sem.run_map, hm, Result.andThen_ok]
  have hfill' : Instr.fill (fun i => (Array.mk pl)[i]?) ⟨zs⟩ vs = some ⟨us⟩ := by simpa using hfill
  simp only [execOp, Instr.build, h2, Sem.run_bind, run_underlying hT, Result.andThen_ok, hz', hz, hm2, hfill', Sem.run_pure]

/-- structs held against each other -/
theorem Step.eqA {op : BinOp} {xt yt : TypeId} {x y : Operand} {a b : List Value} {r : Bool} (hg : guardE ops e ⟨some d, .binOp op xt x y yt, ty, pos, af, g⟩ = some c)
    (hx : Op1 e c x (.agg ⟨a⟩)) (hy : Op1 e c y (.agg ⟨b⟩))
    (hq : ∀ w, (do eqGuard op xt x y (.agg ⟨a⟩) (.agg ⟨b⟩); binOp op xt (.agg ⟨a⟩) (.agg ⟨b⟩) : Sem Value).run X.P w = .ok (.bool r) w) (hn : Nat.blt d X.n = true)
    (h : N ((d, c, .bool r) :: e) w) : Step X ops ⟨some d, .binOp op xt x y yt, ty, pos, af, g⟩ e w N :=
  Step.quiet rfl (by simpa [Nat.blt_eq] using hn) hg (fun _ hh => by cases hh) (fun t hf hc => by
    have := hq w
    simp only [execOp, hx.val hf hc, hy.val hf hc]
    rw [Sem.run_bind, this]; rfl) h
end steps
end Go.Vg
