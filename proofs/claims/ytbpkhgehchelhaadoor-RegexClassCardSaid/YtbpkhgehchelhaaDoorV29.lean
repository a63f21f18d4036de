/- Fields of structs that came in. -/
import Derived.Test.YtbpkhgehchelhaaDoorGV1
import Derived.Lib.SmallJoins
namespace Go.Vg
open Go.RowKit Go.WideShapes Go.ChangeShapes
theorem field_ok {P : Program} {w : World} {b t u e i : Nat} {fs : Array Field} {cs : Array Value} {ts : List TypeId} {v : Value} (ht : P.underlying t = some (.struct fs)) (h : OkW P w b t (.agg cs)) (hct : P.cellTypes P.depth t = some ts) (hi : ts[i]? = some u)
    (hv : cs[i]? = some v) (hu : P.underlying u = some (.slice e)) : OkW P w b u v := by
  have h := h.ok
  simp only [Value.okWide, ht] at h
  obtain ⟨cs', hcs, _, ts', hts, _, hall⟩ := h
  cases hcs
  rw [hct] at hts
  cases hts
  obtain ⟨u', hu', hok⟩ := hall i v hv
  have hlt := (List.getElem?_eq_some_iff.1 hi).1
  rw [Nat.mod_eq_of_lt hlt, hi] at hu'
  cases hu'
  exact ⟨by simp only [Value.okWide, hu]; exact hok⟩
theorem open_bool1 {H : Type} {enc : TypeId × Value → H} {P : Program} {w : World} {b : Nat} {sp : Nat → Bool} {hd : Bool} {t n : Nat} {cs : List Value} {x : DataW H × List MemPlace}
    (ht : P.underlying t = some .bool) (h : DataW.trod enc P w b sp hd n t cs = some x) : ∃ m : Bool, cs = [.bool m] := by
  obtain ⟨m, rfl, _⟩ := DataW.trod_bool ht h
  exact ⟨m, rfl⟩
/-- a field that is a slice -/
theorem open_rows1 {H : Type} {enc : TypeId × Value → H} {P : Program} {w : World} {sp : Nat → Bool} {hd : Bool} {t e k b0 n : Nat} {α : Type} {v : Value} {x : DataW H × List MemPlace} (dec : α → List Value) (Q : α → Prop)
    (ht : P.underlying t = some (.slice e)) (hc : P.cellsOf e = k) (hel : ∀ n cs x, DataW.trod enc P w 0 sp hd n e cs = some x → ∃ a, cs = dec a ∧ Q a)
    (hval : OkW P w b0 t v) (h : DataW.trod enc P w 0 sp hd n t [v] = some x) : ∃ ls : List α, Sli w v k (ls.map dec) ∧ ∀ a ∈ ls, Q a := by
  obtain ⟨a0, len, cap, rfl⟩ := okWide_slice ht hval.ok
  exact open_rows (d := x.1) (p := x.2) dec Q ht hc hel hval ⟨n, h⟩
end Go.Vg
