/- Bytes of a text, written over and grown. -/
import Derived.Test.YtbnckhfkkoncbaaV33
import Derived.Lib.SmallJoins
namespace Go.Vg
open Go.RowKit

/-- a row made of a text: what lies behind the text's bytes may hold more -/
def Frz (w : World) (B : Nat) (v : Value) (et : Nat) (s : List UInt8) : Prop :=
  ∃ b G cs, v = .slice (some ⟨b, 0, none⟩) s.length G ∧ B ≤ b ∧ w.heap[b]? = some (.cells ⟨cs⟩ et (cs.length, cs.length + 1)) ∧ cs.take s.length = s.map U ∧ cs.length = G ∧ s.length ≤ G
/-- bytes of one's own -/
def Bwy (w : World) (B : Nat) (v : Value) (et : Nat) (s : List UInt8) : Prop := Frz w B v et s ∨ Owns w B v et 1 (bysC s)
theorem Frz.sli {w : World} {B et : Nat} {v : Value} {s : List UInt8} (h : Frz w B v et s) (hl : s.length ≤ 9223372036854775807) : By w v s := by
  obtain ⟨b, G, cs, rfl, _, hb, htk, _, hsG⟩ := h
  exact by_of hb htk hsG hl
theorem Bwy.sli {w : World} {B et : Nat} {v : Value} {s : List UInt8} (h : Bwy w B v et s) (hl : s.length ≤ 9223372036854775807) : By w v s := by
  rcases h with h | h
  · exact h.sli hl
  · exact h.sli
theorem Frz.to {w w' : World} {B et : Nat} {v : Value} {s : List UInt8} (h : Frz w B v et s) (hx : Ext w w') : Frz w' B v et s := by
  obtain ⟨b, G, cs, hv, hB, hb, hr⟩ := h
  exact ⟨b, G, cs, hv, hB, by rw [hx.block b (Array.getElem?_eq_some_iff.1 hb).1]; exact hb, hr⟩
theorem Bwy.to {w w' : World} {B et : Nat} {v : Value} {s : List UInt8} (h : Bwy w B v et s) (hx : Ext w w') : Bwy w' B v et s := by
  rcases h with h | h
  · exact .inl (h.to hx)
  · exact .inr (Owns.to h hx)
theorem Frz.mono {w : World} {B B' et : Nat} {v : Value} {s : List UInt8} (h : Frz w B v et s) (hB : B' ≤ B) : Frz w B' v et s := by
  obtain ⟨b, G, cs, hv, hb, hr⟩ := h
  exact ⟨b, G, cs, hv, Nat.le_trans hB hb, hr⟩
section
variable {X : Cx} {ops : Array Oper} {l : List Oper} {kk : List Kt} {e : Env} {w : World} {N : Env → World → Prop} {d : Nat} {c : Option Bool} {ty : TypeId} {pos : String} {af : Array Edge} {g : Option (Nat × Bool)}
theorem Step.strBytesF (T : Tb X.P) {x : Operand} {src dst et : TypeId} {s : List UInt8} (hg : guardE ops e ⟨some d, .convert src dst x, ty, pos, af, g⟩ = some none)
    (hx : Op1 e none x (S s)) (hs : T.ty src = some .string) (ht : T.ty dst = some (.slice et)) (he : T.ty et = some (.int .u8)) (hn : Nat.blt d X.n = true)
    (h : ∀ v w', Frz w' w.heap.size v et s → Ext w w' → N ((d, none, v) :: e) w') : Step X ops ⟨some d, .convert src dst x, ty, pos, af, g⟩ e w N :=
  Step.strBytes2 T hg hx hs ht he hn fun w' G cs hb htk hcl hsG _ hxx => h _ w' ⟨_, G, cs, rfl, Nat.le_refl _, hb, htk, hcl, hsG⟩ hxx
/-- a byte written over -/
theorem Step.storeF (T : Tb X.P) {x y : Operand} {t : TypeId} {v z : Value} {by_ B et j : Nat} {s : List UInt8} {u : UInt8} (hg : guardE ops e ⟨none, .store t x y, ty, pos, af, g⟩ = some none)
    (hx : Op1 e none x (padd v (j * 1))) (hy : Op1 e none y (U u)) (hi : T.inf t = some (z, 1, by_)) (ho : Frz w B v et s) (hj : j < s.length)
    (h : ∀ w', Frz w' B v et (s.set j u) → Below B w w' → N e w') : Step X ops ⟨none, .store t x y, ty, pos, af, g⟩ e w N := by
  obtain ⟨b, G, cs, rfl, hB, hb, htk, hcl, hsG⟩ := ho
  obtain ⟨w', hrun, hw, hx'⟩ := run_storeCells_f X.P et cs.length [U u] b (j * 1) 0 cs w hb rfl (by simp; omega) (fun v hv => by simp only [List.mem_cons, List.not_mem_nil, or_false] at hv; subst hv; rfl)
  simp only [Nat.add_zero, Nat.mul_one, List.length_cons, List.length_nil, Nat.zero_add] at hx'
  have hset : cs.take j ++ [U u] ++ cs.drop (j + 1) = cs.set j (U u) := by
    rw [List.set_eq_take_append_cons_drop, if_pos (by omega)]; simp
  rw [hset] at hx'
  refine Step.effNone rfl hg (fun _ hh => by cases hh) (w' := w') (fun t' hf => ?_) (h w' ⟨b, G, cs.set j (U u), by rw [List.length_set], hB, by rw [List.length_set]; exact hx', ?_, by rw [List.length_set]; exact hcl, by rw [List.length_set]; exact hsG⟩ ((Below.refl B w).wr hw hB))
  · have hp : padd (Value.slice (some ⟨b, 0, none⟩) s.length G) (j * 1) = .pointer (some ⟨b, j * 1, none⟩) := by simp [padd, Addr.add_lit]
    have hv : (U u).cells = ⟨[U u]⟩ := rfl
    have hsz' : ¬ ((⟨[U u]⟩ : Array Value).size ≠ 1) := by simp
    simp only [execOp, hx.val hf rfl, hy.val hf rfl, hp, Instr.storeAt, Instr.sureAddr, storeVar, Sem.run_bind, Sem.run_pure, Result.andThen_ok, run_sizeOf hi, hv, if_neg hsz', hrun]
  · rw [List.length_set, List.take_set, htk, List.map_set]
/-- a byte behind them -/
theorem Step.appendF (T : Tb X.P) {x y : Operand} {t et : TypeId} {v u z : Value} {B : Nat} {s : List UInt8} {q : UInt8}
    (hg : guardE ops e ⟨some d, .call { callee := .builtin .append, args := #[x, y], argTypes := #[t, t] }, ty, pos, af, g⟩ = some none)
    (hx : Op1 e none x v) (hy : Op1 e none y u) (ht : T.ty t = some (.slice et)) (hi : T.inf et = some (z, 1, 1)) (hz : z.cells.size = 1)
    (hv : Bwy w B v et s) (hu : By w u [q]) (hl : s.length + 1 ≤ 140737488355328) (hB : B ≤ w.heap.size) (hn : Nat.blt d X.n = true)
    (h : ∀ v' w', Bwy w' B v' et (s ++ [q]) → Below B w w' → N ((d, none, v') :: e) w') :
    Step X ops ⟨some d, .call { callee := .builtin .append, args := #[x, y], argTypes := #[t, t] }, ty, pos, af, g⟩ e w N := by
  rcases hv with hv | hv
  · obtain ⟨i, hi1, hi2, hi3, hi4⟩ := T.iok _ _ _ _ hi
    have hT := T.ok _ _ ht
    obtain ⟨b, G, cs, rfl, hBb, hb, htk, hcl, hsG⟩ := hv
    have hbl : b < w.heap.size := (Array.getElem?_eq_some_iff.1 hb).1
    rcases hu with ⟨_, hnil⟩ | ⟨a, cap, rfl, hs, hc, hyl, hcell, hyb⟩
    · simp [bysC] at hnil
    · have hcell0 : ∀ j v, [U q][j]? = some v → w.cell? (a.add j) = some v := by
        intro j v hj
        have hj0 : j = 0 := by have := (List.getElem?_eq_some_iff.1 hj).1; simp at this; exact this
        subst hj0
        cases hj
        exact hcell 0 [U q] rfl 0 (U q) rfl
      have hone : ∀ v ∈ [U q], v.oneCell' = true := fun v hv => by simp only [List.mem_cons, List.not_mem_nil, or_false] at hv; subst hv; rfl
      have hy1 : Op1 e none y (.slice (some a) 1 cap) := hy
      by_cases hroom : s.length + 1 ≤ G
      · obtain ⟨w', hr, hw, hx'⟩ := run_storeCells_f X.P et cs.length [U q] b s.length 0 cs w hb rfl (by simp; omega) hone
        simp only [Nat.add_zero, List.length_cons, List.length_nil, Nat.zero_add] at hx'
        have hset : cs.take s.length ++ [U q] ++ cs.drop (s.length + 1) = cs.set s.length (U q) := by
          rw [List.set_eq_take_append_cons_drop, if_pos (by omega)]; simp
        rw [hset] at hx'
        refine Step.eff (v := .slice (some ⟨b, 0, none⟩) (s.length + 1) G) (w' := w') rfl (by simpa [Nat.blt_eq] using hn) hg (fun _ hh => by cases hh) (fun t' hf => run_builtin2 (hx.val hf rfl) (hy1.val hf rfl) fun cs' => ?_)
          (h _ w' (.inl ⟨b, G, cs.set s.length (U q), by rw [List.length_append]; rfl, hBb, by rw [List.length_set]; exact hx', ?_, by rw [List.length_set]; exact hcl, by rw [List.length_append]; exact hroom⟩) ((Below.refl B w).wr hw hBb))
        · have hf := run_firstCells_some (P := X.P) w i.size 1 a 1 cap [U q] (by rw [hi3]; rfl) hcell0
          have hrun : (Builtin.append_ #[t, t] ty #[.slice (some ⟨b, 0, none⟩) s.length G, .slice (some a) 1 cap]).run X.P w = .ok (.slice (some ⟨b, 0, none⟩) (s.length + 1) G) w' := by
            simp [Builtin.append_, run_underlying hT, sizeOf, typeInfo, hi1, Builtin.lenOf, hroom, hf, Addr.add_lit, hi3]
            rw [hi3] at hf
            simp [hf, hr]
          simp only [builtin, Sem.run_bind, hrun, Result.andThen_ok, Sem.run_pure]
        · rw [List.length_append, List.length_cons, List.length_nil, List.map_append]
          have hlt : s.length < cs.length := by omega
          rw [List.take_succ_eq_append_getElem (by rw [List.length_set]; exact hlt), List.take_set_of_le (Nat.le_refl _), htk, List.getElem_set_self]; rfl
      · have holds : ∀ j v, (s.map U)[j]? = some v → w.cell? ((⟨b, 0, none⟩ : Addr).add j) = some v := by
          intro j v hj
          have hjl : j < s.length := by have := (List.getElem?_eq_some_iff.1 hj).1; simpa using this
          rw [Addr.add_lit, Nat.zero_add, Joins.cell_of_block hb j]
          have h2 : (cs.take s.length)[j]? = (s.map U)[j]? := by rw [htk]
          rw [List.getElem?_take_of_lt hjl, hj] at h2
          simpa using h2
        have hr := run_append_grow (P := X.P) w t ty et i z hT hi1 hi2 ⟨b, 0, none⟩ s.length G (s.map U) (by rw [hi3]; simp) holds a 1 cap [U q] (by rw [hi3]; rfl) hcell0 (by omega) (by omega) (by rw [hi4]; exact growslice_fits (by omega) (by omega))
        obtain ⟨G', hG'⟩ : ∃ G', G' = grownCap w (s.length + 1) G et := ⟨_, rfl⟩
        have hGe := grownCap_ge w (s.length + 1) G et
        have hGm := grownCap_le_maxLen w (s.length + 1) G et (by unfold maxLen; omega)
        rw [← hG'] at hr hGe hGm
        obtain ⟨cs2, hcs2⟩ : ∃ cs2, cs2 = ((s.map U).toArray ++ [U q].toArray ++ Builtin.zeroCells z.cells (G' - (s.length + 1))).toList := ⟨_, rfl⟩
        have hrow : (s.map U).toArray ++ [U q].toArray ++ Builtin.zeroCells z.cells (G' - (s.length + 1)) = ⟨cs2⟩ := by rw [hcs2]
        have hcl2 : cs2.length = G' := by
          rw [hcs2, Array.length_toList]
          simp only [Array.size_append, List.size_toArray, size_zeroCells, hz, List.length_map, List.length_cons, List.length_nil]
          omega
        have htk2 : cs2.take (s.length + 1) = (s ++ [q]).map U := by
          rw [hcs2, Array.toList_append, Array.toList_append, List.map_append]
          exact List.take_left' (by simp)
        rw [hrow] at hr
        refine Step.eff (v := .slice (some ⟨w.heap.size, 0, none⟩) (s.length + 1) G') (w' := w.drew.alloc (.cells ⟨cs2⟩ et)) rfl (by simpa [Nat.blt_eq] using hn) hg (fun _ hh => by cases hh) (fun t' hf => run_builtin2 (hx.val hf rfl) (hy1.val hf rfl) fun cs' => ?_) (h _ _ (.inr ?_) (((Ext.drew w).trans (Ext.alloc _ _)).mono hB))
        · simp only [builtin, Sem.run_bind, hr, Result.andThen_ok, Sem.run_pure]
        · have hbl2 : (bysC (s ++ [q])).length = s.length + 1 := by rw [bysC_len, List.length_append]; rfl
          refine ⟨⟨?_, .inr ⟨w.heap.size, G', ⟨cs2⟩, by rw [hbl2], hB, heap_alloc_new w.drew _, by rw [hbl2]; exact hGe, hGm, ?_, ?_⟩⟩, bysC_k _, by rw [hbl2]; exact hl⟩
          · rw [bysC_flat, bysC_len, List.length_map, Nat.mul_one]
          · show cs2.length = G' * 1
            rw [hcl2, Nat.mul_one]
          · show cs2.take _ = _
            rw [hbl2, Nat.mul_one, bysC_flat, htk2]
  · refine Step.append T hg hx hy ht hi (by rfl) hz hv hu (bysC_one _) (by rw [bysC_len, bysC_len, List.length_cons, List.length_nil]; omega) (by rw [bysC_len, bysC_len, List.length_cons, List.length_nil]; omega) hB hn (fun v' w' ho hgr => h v' w' (.inr ?_) (hgr.below _ (Below.refl _ _)))
    rw [bysC_app]; exact ho
end
end Go.Vg
