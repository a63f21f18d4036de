/- An array in a box, sliced. -/
import Derived.Test.YtbnckhfkkoncbaaV25
namespace Go.Vg
open Go.RowKit
section
variable {X : Cx} {ops : Array Oper} {l : List Oper} {kk : List Kt} {e : Env} {w : World} {N : Env → World → Prop} {d : Nat} {c : Option Bool} {ty : TypeId} {pos : String} {af : Array Edge} {g : Option (Nat × Bool)}
/-- the elements of an array of one's own from place a on (a < n): the slice, and what it holds -/
theorem Step.sliceArr (T : Tb X.P) {x i : Operand} {st et n by_ b a : Nat} {z : Value} {m : Int} {us : List Value} (hg : guardE ops e ⟨some d, .slice st x (some i) none none, ty, pos, af, g⟩ = some none)
    (hx : Op1 e none x (ptr b)) (hlo : Op1 e none i (.int .i64 m)) (ht : T.ty st = some (.array n et)) (hz : T.inf et = some (z, 1, by_)) (hb : Bx w b us) (hl : us.length = n) (hm : m = a) (ha : a < n) (hn9 : n ≤ 1000000) (hn : Nat.blt d X.n = true)
    (h : ∀ v, Sli w v 1 ((us.drop a).map fun u => [u]) → N ((d, none, v) :: e) w) : Step X ops ⟨some d, .slice st x (some i) none none, ty, pos, af, g⟩ e w N := by
  subst hm
  have hT := T.ok _ _ ht
  have hb1 : ∀ code, (Instr.sliceBound (.int .i64 a) n code).run X.P w = .ok a w := fun code => by
    have := run_sliceBound (P := X.P) w .i64 (a : Int) n code (by omega) (by omega)
    simpa using this
  have h3 : (Instr.sliceAt st (ptr b) (some (.int .i64 a)) none none).run X.P w = .ok (.slice (some ⟨b, a, none⟩) (n - a) (n - a)) w := by
    have hne : ¬ n = a := by omega
    simp only [Instr.sliceAt, Sem.run_bind, run_underlying hT, Result.andThen_ok, ptr, Instr.sureAddr, Instr.sliceBounds, Sem.run_pure, hb1, run_sizeOf hz, if_neg hne, Nat.mul_one, Addr.add_lit, Nat.zero_add]
  refine Step.eff rfl (by simpa [Nat.blt_eq] using hn) hg (fun _ hh => by cases hh) (fun t hf => ?_) (h (.slice (some ⟨b, a, none⟩) (n - a) (n - a)) ?_)
  · simp only [execOp, hx.val hf rfl, hlo.val hf rfl, Option.map_some, Option.map_none, Sem.run_bind, h3, Result.andThen_ok, Sem.run_pure]
  · have hdl : ((us.drop a).map fun u => [u]).length = n - a := by rw [List.length_map, List.length_drop, hl]
    obtain ⟨t, hb⟩ := hb
    refine .inr ⟨⟨b, a, none⟩, n - a, by rw [hdl], rfl, by rw [hdl]; exact Nat.le_refl _, ?_, ?_, by rw [hdl]; omega⟩
    · intro y hy
      obtain ⟨u, _, rfl⟩ := List.mem_map.1 hy
      rfl
    · intro j y hy k u hu
      rw [List.getElem?_map, Option.map_eq_some_iff] at hy
      obtain ⟨u', hu', rfl⟩ := hy
      have hk : k = 0 := by
        have := (List.getElem?_eq_some_iff.1 hu).1
        simp at this; exact this
      subst hk
      cases hu
      rw [List.getElem?_drop] at hu'
      simp only [Addr.add_lit, Nat.mul_one, Nat.add_zero]
      refine (cell_of_row w b (a + j) ⟨us⟩ t (0, 0) hb).trans ?_
      simpa using hu'
end
end Go.Vg
