/- Zero bytes behind the bytes of a text. -/
import Derived.Test.YtbnckhfkkoncbaaV28
import Derived.Lib.SmallJoins
namespace Go.Vg
open Go.RowKit

theorem run_storeCells_f (P : Program) (t m : Nat) : ∀ (vs : List Value) (b o i : Nat) (us : List Value) (w : World), w.heap[b]? = some (.cells ⟨us⟩ t (m, m + 1)) → us.length = m → o + i + vs.length ≤ us.length → (∀ v ∈ vs, v.oneCell' = true) →
    ∃ w', (storeCells ⟨b, o, none⟩ vs i).run P w = .ok () w' ∧ Wr b w w' ∧ w'.heap[b]? = some (.cells ⟨us.take (o + i) ++ vs ++ us.drop (o + i + vs.length)⟩ t (m, m + 1))
  | [], b, o, i, us, w, h, _, _, _ => ⟨w, by simp [storeCells], Wr.refl b w, by simpa using h⟩
  | v :: r, b, o, i, us, w, hb, hm, hl, h1 => by
    simp only [List.length_cons] at hl
    have hc : (w.cell? ⟨b, o + i, none⟩).isSome = true := by
      rw [Joins.cell_of_block hb (o + i)]; simp; omega
    obtain ⟨u0, hu0⟩ := Option.isSome_iff_exists.1 hc
    have hf : w.frozen? ⟨b, o + i, none⟩ = false := by
      unfold World.frozen?
      simp only [hb]
      rw [show decide (m ≤ o + i) = false from decide_eq_false (by omega)]; rfl
    have hst := run_store P w ⟨b, o + i, none⟩ v .plain (h1 v (by simp))
    rw [hu0] at hst
    simp only [hf, Bool.false_eq_true, if_false] at hst
    have hb2 : (w.setCell ⟨b, o + i, none⟩ v).heap[b]? = some (.cells ⟨us.set (o + i) v⟩ t (m, m + 1)) := by
      have := Joins.block_setCell (i := o + i) hb v
      simpa using this
    obtain ⟨w', hr, hw, hx⟩ := run_storeCells_f P t m r b o (i + 1) _ _ hb2 (by simpa using hm) (by simp; omega) (fun u hu => h1 u (by simp [hu]))
    refine ⟨w', ?_, (Wr.setCell w b (o + i) v).trans hw, ?_⟩
    · simp only [storeCells, Sem.run_bind, Addr.add_lit, hst, Result.andThen_ok, hr]
    · have e : (us.set (o + i) v).take (o + (i + 1)) ++ r ++ (us.set (o + i) v).drop (o + (i + 1) + r.length) = us.take (o + i) ++ (v :: r) ++ us.drop (o + i + (v :: r).length) := by
        have h3 : o + i < us.length := by omega
        rw [show o + (i + 1) = (o + i) + 1 by omega, List.take_set, List.drop_set_of_lt (by omega)]
        rw [List.take_succ_eq_append_getElem (by simpa using h3)]
        rw [List.set_append_right _ _ (by simp; omega)]
        simp [show min (o + i) us.length = o + i by omega]
        congr 1; omega
      rw [← e]; exact hx

theorem zeroU (n : Nat) : (Builtin.zeroCells #[.int .u8 0] n).toList = List.replicate n (U 0) := by
  apply List.ext_getElem
  · simp [Builtin.zeroCells]
  · intro i h1 h2
    simp [Builtin.zeroCells, U, Nat.mod_one]
/-- a row whose first cells are bytes -/
theorem by_of {w : World} {b : Nat} {cs : List Value} {t cap : Nat} {fr : Nat × Nat} {l : List UInt8} (hb : w.heap[b]? = some (.cells ⟨cs⟩ t fr)) (h : cs.take l.length = l.map U) (hc : l.length ≤ cap) (hl : l.length ≤ 9223372036854775807) : By w (.slice (some ⟨b, 0, none⟩) l.length cap) l := by
  refine .inr ⟨⟨b, 0, none⟩, cap, by rw [bysC_len], rfl, by rw [bysC_len]; exact hc, bysC_k l, ?_, by rw [bysC_len]; exact hl⟩
  intro i x hx j u hu
  have hi : i < l.length := by
    have := (List.getElem?_eq_some_iff.1 hx).1
    rwa [bysC_len] at this
  rw [bysC_get hi] at hx
  cases hx
  have hj : j = 0 := by
    have := (List.getElem?_eq_some_iff.1 hu).1
    simp at this; exact this
  subst hj
  cases hu
  simp only [Addr.add_lit, Nat.zero_add, Nat.mul_one, Nat.add_zero]
  rw [Joins.cell_of_block hb i]
  have h2 : (cs.take l.length)[i]? = (l.map U)[i]? := by rw [h]
  rw [List.getElem?_take_of_lt hi, List.getElem?_map] at h2
  simpa [List.getD, hi] using h2
section
variable {X : Cx} {ops : Array Oper} {l : List Oper} {kk : List Kt} {e : Env} {w : World} {N : Env → World → Prop} {d : Nat} {c : Option Bool} {ty : TypeId} {pos : String} {af : Array Edge} {g : Option (Nat × Bool)}
/-- bytes of a text, the row known whole -/
theorem Step.strBytes2 (T : Tb X.P) {x : Operand} {src dst et : TypeId} {s : List UInt8} (hg : guardE ops e ⟨some d, .convert src dst x, ty, pos, af, g⟩ = some none)
    (hx : Op1 e none x (S s)) (hs : T.ty src = some .string) (ht : T.ty dst = some (.slice et)) (he : T.ty et = some (.int .u8)) (hn : Nat.blt d X.n = true)
    (h : ∀ w' G cs, w'.heap[w.heap.size]? = some (.cells ⟨cs⟩ et (cs.length, cs.length + 1)) → cs.take s.length = s.map U → cs.length = G → s.length ≤ G → w'.heap.size = w.heap.size + 1 → Ext w w' →
      N ((d, none, .slice (some ⟨w.heap.size, 0, none⟩) s.length G) :: e) w') : Step X ops ⟨some d, .convert src dst x, ty, pos, af, g⟩ e w N := by
  have hr := run_bytes_of_string w src dst et ⟨⟨s⟩⟩ (T.ok _ _ hs) (T.ok _ _ ht) (T.ok _ _ he)
  obtain ⟨G, hG⟩ : ∃ G, G = grownCap w (⟨⟨s⟩⟩ : ByteArray).size 0 et := ⟨_, rfl⟩
  have hge := grownCap_ge w (⟨⟨s⟩⟩ : ByteArray).size 0 et
  rw [← hG] at hr hge
  have hsz : (⟨⟨s⟩⟩ : ByteArray).size = s.length := rfl
  rw [hsz] at hr hge
  obtain ⟨cs, hcs⟩ : ∃ cs, cs = (bytesRow ⟨⟨s⟩⟩ G).toList := ⟨_, rfl⟩
  have hrow : bytesRow ⟨⟨s⟩⟩ G = ⟨cs⟩ := by rw [hcs]
  have hcl : cs.length = G := by
    rw [hcs, Array.length_toList]; unfold bytesRow
    simp only [Array.size_append, Array.size_map, Array.size_replicate]
    show s.length + (G - s.length) = G
    omega
  have htk : cs.take s.length = s.map U := by
    rw [hcs]; unfold bytesRow
    rw [Array.toList_append, Array.toList_map]
    exact List.take_left' (by simp)
  rw [hrow] at hr
  have hsize : (Array.mk cs).size = cs.length := rfl
  rw [hsize] at hr
  refine Step.eff rfl (by simpa [Nat.blt_eq] using hn) hg (fun _ hh => by cases hh) (fun t' hf => ?_) (h (w.drew.alloc (.cells ⟨cs⟩ et (cs.length, cs.length + 1))) G cs (heap_alloc_new w.drew _) htk hcl hge (by simp) ((Ext.drew w).trans (Ext.alloc _ _)))
  have hv := hx.val (ds := X.ds) hf rfl
  simp only [execOp, hv]
  have : S s = .string ⟨⟨s⟩⟩ := rfl
  rw [this]
  simp only [Sem.run_bind, hr, Result.andThen_ok, Sem.run_pure]

/-- append(b, make([]byte, n)...) -/
theorem Step.appendZB (T : Tb X.P) {x y : Operand} {t tn et : TypeId} {z : Value} {kn : IntKind} {n B b G : Nat} {cs : List Value} {s : List UInt8}
    (hg : guardE ops e ⟨some d, .call { callee := .builtin .append, args := #[x, y], argTypes := #[t, tn] }, ty, pos, af, g⟩ = some none)
    (hx : Op1 e none x (.slice (some ⟨b, 0, none⟩) s.length G)) (hy : Op1 e none y (.int .i64 n)) (ht : T.ty t = some (.slice et)) (htn : T.ty tn = some (.int kn)) (hi : T.inf et = some (z, 1, 1)) (hz : z = .int .u8 0)
    (hb : w.heap[b]? = some (.cells ⟨cs⟩ et (cs.length, cs.length + 1))) (htk : cs.take s.length = s.map U) (hcl : cs.length = G) (hsG : s.length ≤ G) (hB : B ≤ b) (h0 : 0 < n) (hbd : s.length + n ≤ 140737488355328) (hn : Nat.blt d X.n = true)
    (h : ∀ v' w', By w' v' (s ++ List.replicate n 0) → Below B w w' → N ((d, none, v') :: e) w') :
    Step X ops ⟨some d, .call { callee := .builtin .append, args := #[x, y], argTypes := #[t, tn] }, ty, pos, af, g⟩ e w N := by
  obtain ⟨ii, hi1, hi2, hi3, hi4⟩ := T.iok _ _ _ _ hi
  have hT := T.ok _ _ ht
  have hTn := T.ok _ _ htn
  subst hz
  have hbl : b < w.heap.size := (Array.getElem?_eq_some_iff.1 hb).1
  have hrl : (s ++ List.replicate n (0 : UInt8)).length = s.length + n := by simp
  have hrm : (s ++ List.replicate n (0 : UInt8)).map U = s.map U ++ List.replicate n (U 0) := by simp
  have hzl : (Builtin.zeroCells (Value.int .u8 0).cells n).toList = List.replicate n (U 0) := zeroU n
  by_cases hroom : s.length + n ≤ G
  · obtain ⟨w', hr, hw, hx'⟩ := run_storeCells_f X.P et cs.length (List.replicate n (U 0)) b s.length 0 cs w hb rfl (by simp; omega) (fun v hv => by rw [List.eq_of_mem_replicate hv]; rfl)
    simp only [Nat.add_zero, List.length_replicate] at hx'
    refine Step.eff (v := .slice (some ⟨b, 0, none⟩) (s.length + n) G) (w' := w') rfl (by simpa [Nat.blt_eq] using hn) hg (fun _ hh => by cases hh) (fun t' hf => run_builtin2 (hx.val hf rfl) (hy.val hf rfl) fun cs' => ?_) (h _ w' ?_ ?_)
    · have hk : n ≠ 0 := by omega
      have hw1 : IntKind.i64.wrap (n : Int) = n := by rw [IntKind.wrap_i64]; omega
      have h48i : ¬ (281474976710656 < (n : Int) * ((1 : Nat) : Int)) := by omega
      have hneg : ¬ ((n : Int) < 0) := by omega
      have hzl' : (Builtin.zeroCells #[Value.int .u8 0] n).toList = List.replicate n (U 0) := zeroU n
      have hrun : (Builtin.append_ #[t, tn] ty #[.slice (some ⟨b, 0, none⟩) s.length G, .int .i64 n]).run X.P w = .ok (.slice (some ⟨b, 0, none⟩) (s.length + n) G) w' := by
        have hcells : (Value.int .u8 0).cells = #[Value.int .u8 0] := rfl
        simp [Builtin.append_, run_underlying hT, run_underlying hTn, sizeOf, typeInfo, zeroValue, hi1, hi2, hi3, hi4, asInt, asIntOf, hw1, hroom, hneg, hk, h48i, Addr.add_lit, hcells, hzl', hr]
        try omega
      simp only [builtin, Sem.run_bind, hrun, Result.andThen_ok, Sem.run_pure]
    · have := by_of (l := s ++ List.replicate n (0 : UInt8)) (cap := G) hx' (by
        rw [hrl, hrm, htk, List.append_assoc, ← List.append_assoc]
        exact List.take_left' (by simp)) (by rw [hrl]; exact hroom) (by rw [hrl]; omega)
      rw [hrl] at this; exact this
    · exact (Below.refl B w).wr hw hB
  · have hold : (Builtin.firstCells ii.size s.length (.slice (some ⟨b, 0, none⟩) s.length G)).run X.P w.drew = .ok (s.map U).toArray w.drew := by
      refine run_firstCells_some w.drew ii.size s.length ⟨b, 0, none⟩ s.length G _ (by rw [hi3]; simp) (fun j u hj => ?_)
      have hjl : j < s.length := by have := (List.getElem?_eq_some_iff.1 hj).1; simpa using this
      rw [Addr.add_lit, Nat.zero_add]
      show w.cell? _ = _
      rw [Joins.cell_of_block hb j]
      have h2 : (cs.take s.length)[j]? = (s.map U)[j]? := by rw [htk]
      rw [List.getElem?_take_of_lt hjl, hj] at h2
      simpa using h2
    have hr := Lib.run_append_grow_zeros w t tn ty et ii (.int .u8 0) .i64 kn hT hTn hi1 hi2 (some ⟨b, 0, none⟩) s.length G (s.map U) hold n h0 (by rw [hi3]; omega) (by omega) (by omega)
      (by rw [hi4]; omega) (by rw [hi4]; exact growslice_fits (by omega) (by omega))
    obtain ⟨G', hG'⟩ : ∃ G', G' = grownCap w (s.length + n) G et := ⟨_, rfl⟩
    have hGe := grownCap_ge w (s.length + n) G et
    rw [← hG'] at hr hGe
    obtain ⟨cs2, hcs2⟩ : ∃ cs2, cs2 = ((s.map U).toArray ++ Builtin.zeroCells (Value.int .u8 0).cells n ++ Builtin.zeroCells (Value.int .u8 0).cells (G' - (s.length + n))).toList := ⟨_, rfl⟩
    have hrow : (s.map U).toArray ++ Builtin.zeroCells (Value.int .u8 0).cells n ++ Builtin.zeroCells (Value.int .u8 0).cells (G' - (s.length + n)) = ⟨cs2⟩ := by rw [hcs2]
    rw [hrow] at hr
    refine Step.eff (v := .slice (some ⟨w.heap.size, 0, none⟩) (s.length + n) G') (w' := w.drew.alloc (.cells ⟨cs2⟩ et)) rfl (by simpa [Nat.blt_eq] using hn) hg (fun _ hh => by cases hh) (fun t' hf => run_builtin2 (hx.val hf rfl) (hy.val hf rfl) fun cs' => ?_) (h _ _ ?_ ?_)
    · simp only [builtin, Sem.run_bind, hr, Result.andThen_ok, Sem.run_pure]
    · have := by_of (w := w.drew.alloc (.cells ⟨cs2⟩ et)) (b := w.heap.size) (l := s ++ List.replicate n (0 : UInt8)) (cap := G') (heap_alloc_new w.drew _) (by
        rw [hrl, hrm, hcs2, Array.toList_append, Array.toList_append, hzl]
        exact List.take_left' (by simp)) (by rw [hrl]; exact hGe) (by rw [hrl]; omega)
      rw [hrl] at this; exact this
    · exact ((Ext.drew w).trans (Ext.alloc _ _)).mono (by omega)
end
end Go.Vg
