/- labels: sorted by the library. -/
import Derived.Test.YtfffblopkaandaaDoorLP
open Go Go.Vg Go.RowKit Go.Proofs Go.Proofs.YtfffblopkaandaaDoor
namespace Go.Proofs.YtfffblopkaandaaDoor
set_option linter.unusedSimpArgs false
open Go.Sort

theorem isAggL : ∀ w, (isAgg (Tryd.sortL_ren.t 24)).run Tryd.prog w = .ok true w := Tryd.isAgg28
theorem sizeL : ∀ w, (Go.sizeOf (Tryd.sortL_ren.t 24)).run Tryd.prog w = .ok 2 w := Tryd.sizeOf28
theorem labC1 : ∀ x : Lab, ∀ v ∈ labC x, v.oneCell' = true := by
  intro x c hc
  simp only [labC, List.mem_cons, List.not_mem_nil, or_false] at hc
  rcases hc with rfl | rfl <;> rfl
theorem cmpLaysL (blk off size : Nat) (w : World) : CmpLays Tryd.prog 57 #[] labC 2 cfL blk off size w :=
  fun _ _ _ _ x y => Calls.mono (new1_ok x y _) fun _ _ ⟨v, he, hv, q, os, hw⟩ => ⟨by rw [he, hv]; rfl, q, os, hw⟩
def sortedL (ls : List Lab) : Prop := ls.Pairwise fun x y => Op.bytesLess y.1 x.1 = false
theorem sort_ok (s : Value) (ls : List Lab) (B : Nat) (w : World) (ho : LO w B s ls) (hn : ls.length ≤ 1000000) :
    Ret Tryd.prog 56 ⟨[s, .func (.func 57) #[] #[]]⟩ w fun r w' => r = .tuple #[] ∧ ∃ d : List Lab, d.Perm ls ∧ sortedL d ∧ LO w' B s d ∧ ∀ w0, Below B w0 w → Below B w0 w' := by
  rcases Owns.sort (enc := labC) (fun _ => rfl) ho with ⟨rfl, rfl⟩ | ⟨g, cap, rfl, hB, hg, hH, hre⟩
  · refine Calls.mono (AnyF.slices_SortFunc_none (P := Tryd.prog) (ρ := Tryd.sortL_ren) Tryd.sortL none 0 (.func (.func 57) #[] #[]) w) ?_
    rintro e w' ⟨rfl, rfl⟩
    exact ⟨_, rfl, rfl, [], List.Perm.refl _, List.Pairwise.nil, ho, fun _ h => h⟩
  · have eg : ∀ args w, (callFunc 57 args).run Tryd.prog w = .ok (.enter 57 args) w := enters_of Tryd.func57 (by kernel_rfl) rfl
    have hs := AnyQ.slices_SortFunc Tryd.sortL 2 isAggL sizeL labC (fun _ => rfl) labC1 cfL swoL 57 #[] g 0 cap ls.toArray w eg (cmpLaysL g 0 ls.toArray.size w) hH hg (by simp only [List.size_toArray]; omega)
    refine Calls.mono hs ?_
    rintro e w' ⟨rfl, d', n, os, ⟨hsz, -, hp⟩, hso, rfl⟩
    simp only [List.size_toArray] at hsz hp hso
    obtain ⟨h1, h2⟩ := hre d'.toList n os (by simpa using hsz)
    refine ⟨_, rfl, rfl, d'.toList, ?_, ?_, h1, h2⟩
    · have e1 : (d'.extract 0 ls.length).toList = d'.toList := by rw [← hsz]; simp
      have e2 : (ls.toArray.extract 0 ls.length).toList = ls := by simp
      rw [e1, e2] at hp; exact hp
    · refine List.pairwise_iff_getElem.2 fun i j hi hj hij => ?_
      have := hso i j (Nat.zero_le _) hij (by simpa [hsz] using hj)
      rw [ltL] at this
      have hi' : i < d'.size := by simpa using hi
      have hj' : j < d'.size := by simpa using hj
      rw [getElem!_pos _ i hi', getElem!_pos _ j hj'] at this
      simpa using this
end Go.Proofs.YtfffblopkaandaaDoor
