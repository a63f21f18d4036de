/- An owned row, sorted by the library. -/
import Derived.Test.YtfffblopkaandaaDoorGV1
import Derived.Shelf.SlSortCmp.NoneTotal
namespace Go.Vg
open Go.RowKit Go.Proofs Go.Sort

theorem flatK_list {α : Type} [Inhabited α] (enc : α → List Value) (k : Nat) (hk : ∀ x, (enc x).length = k) (ls : List α) : (flatK enc k ls.toArray).toList = (ls.map enc).flatten := by
  have hl : (ls.map enc).flatten.length = ls.length * k := by
    rw [flatten_length _ (fun x hx => by obtain ⟨y, _, rfl⟩ := List.mem_map.1 hx; exact hk y), List.length_map]
  refine List.ext_getElem? fun t => ?_
  by_cases ht : t < ls.length * k
  · have hk0 : 0 < k := by
      rcases Nat.eq_zero_or_pos k with h | h
      · subst h; simp at ht
      · exact h
    have h1 : t / k < ls.length := Nat.div_lt_of_lt_mul (by rw [Nat.mul_comm]; exact ht)
    have h2 : t % k < k := Nat.mod_lt _ hk0
    have e1 : (flatK enc k ls.toArray)[t]? = some ((enc (ls.toArray[t / k]!))[t % k]!) := by
      rw [← get_flatK enc k ls.toArray t (by simpa using ht)]
      rw [getElem!_pos _ t (by simpa using ht)]
      simp [ht]
    rw [Array.getElem?_toList, e1]
    have e2 : ls.toArray[t / k]! = ls[t / k] := by rw [getElem!_pos _ _ (by simpa using h1)]; simp
    have e3 : (enc (ls[t / k]))[t % k]! = (enc ls[t / k])[t % k]'(by rw [hk]; exact h2) := by rw [getElem!_pos]
    have := flatten_get (k := k) (ls.map enc) (fun x hx => by obtain ⟨y, _, rfl⟩ := List.mem_map.1 hx; exact hk y) (t / k) (enc ls[t / k]) (by simp [h1]) (t % k) ((enc ls[t / k])[t % k]'(by rw [hk]; exact h2)) (by simp)
    rw [Nat.mul_comm, Nat.div_add_mod] at this
    rw [this, e2, e3]
  · rw [List.getElem?_eq_none (by simp; omega), List.getElem?_eq_none (by rw [hl]; omega)]

theorem Owns.sort {w : World} {B : Nat} {v : Value} {et k : Nat} {α : Type} [Inhabited α] {enc : α → List Value} (hk : ∀ x, (enc x).length = k) {ls : List α} (h : Owns w B v et k (ls.map enc)) :
    (v = .slice none 0 0 ∧ ls = []) ∨ ∃ g cap, v = .slice (some ⟨g, 0, none⟩) ls.length cap ∧ B ≤ g ∧ g < w.heap.size ∧ HoldsK enc k w g 0 ls.toArray ∧
      ∀ (ls' : List α) (n : Nat) (os : Array Obj), ls'.length = ls.length → Owns (sortWorldK enc k w g 0 n ls'.toArray os) B v et k (ls'.map enc) ∧ ∀ w0, Below B w0 w → Below B w0 (sortWorldK enc k w g 0 n ls'.toArray os) := by
  obtain ⟨⟨hl, h⟩, hkk, hb⟩ := h
  rcases h with ⟨rfl, hn⟩ | ⟨g, cap, cur, rfl, hB, hg, hc, hm, hs, ht⟩
  · refine .inl ⟨rfl, ?_⟩
    simpa using hn
  · simp only [List.length_map] at hl hc hb ht hs ⊢
    have hcur : ∀ j, j < ls.length * k → cur[j]? = (ls.map enc).flatten[j]? := by
      intro j hj
      rw [← ht, List.getElem?_take_of_lt hj]; simp
    have hlt : g < w.heap.size := (Array.getElem?_eq_some_iff.1 hg).1
    have hle : ls.length * k ≤ cap * k := Nat.mul_le_mul_right _ hc
    refine .inr ⟨g, cap, rfl, hB, hlt, ?_, ?_⟩
    · intro j hj
      rw [size_flatK] at hj
      simp only [List.size_toArray] at hj
      have e1 : (flatK enc k ls.toArray)[j]? = cur[j]? := by
        rw [hcur j hj, ← flatK_list enc k hk ls]; simp
      constructor
      · have : w.cell? ⟨g, 0 + j, none⟩ = cur[j]? := by rw [Nat.zero_add, cell_of_row w g j cur et (0, 0) hg]
        rw [this, ← e1, getElem!_pos _ j (by simpa using hj)]
        simp [hj]
      · simp [World.frozen?, hg]
    · intro ls' n os hls
      have hF : (flatK enc k ls'.toArray).size = ls'.length * k := by simp
      have hheap : (sortWorldK enc k w g 0 n ls'.toArray os).heap[g]? = some (.cells (putCells id 0 (flatK enc k ls'.toArray) cur) et (0, 0)) := by
        simp only [sortWorldK, grow, putRowK, putRow, mapBlock, heap_ahead]
        rw [Array.getElem?_append_left (by simpa using hlt)]
        simp [Array.getElem?_modify, hg, onCells]
      refine ⟨⟨⟨?_, .inr ⟨g, cap, _, by rw [List.length_map, hls], hB, hheap, by rw [List.length_map, hls]; exact hc, hm, ?_, ?_⟩⟩, fun x hx => by obtain ⟨y, _, rfl⟩ := List.mem_map.1 hx; exact hk y, by rw [List.length_map, hls]; exact hb⟩, ?_⟩
      · rw [flatten_length _ (fun x hx => by obtain ⟨y, _, rfl⟩ := List.mem_map.1 hx; exact hk y)]
      · simp [putCells, hs]
      · rw [← flatK_list enc k hk ls', List.length_map]
        refine List.ext_getElem? fun t => ?_
        by_cases htt : t < ls'.length * k
        · rw [List.getElem?_take_of_lt htt]
          have h3 : t < cur.size := by rw [hs]; rw [hls] at htt; omega
          simp only [Array.getElem?_toList, putCells, Array.getElem?_mapIdx]
          rw [show cur[t]? = some cur[t] by simp [h3]]
          simp only [Option.map_some, hF, Nat.zero_le, Nat.zero_add, htt, and_self, if_true, Nat.sub_zero, id]
          rw [getElem!_pos _ t (by simpa using htt)]
          simp [htt]
        · rw [List.getElem?_eq_none (by simp; omega), List.getElem?_eq_none (by simp; omega)]
      · intro w0 hb0
        refine ⟨hb0.os, hb0.tape, hb0.output, ?_, ?_⟩
        · have := hb0.size
          simp only [sortWorldK, grow, putRowK, putRow, mapBlock, heap_ahead, Array.size_append, Array.size_modify]; omega
        · intro q hq
          rw [← hb0.block q hq]
          simp only [sortWorldK, grow, putRowK, putRow, mapBlock, heap_ahead]
          have hne : g ≠ q := by omega
          by_cases hqs : q < w.heap.size
          · rw [Array.getElem?_append_left (by simpa using hqs)]
            simp [Array.getElem?_modify, hne]
          · exact absurd (show q < w.heap.size by omega) hqs
end Go.Vg
