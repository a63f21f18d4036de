/- Parameters, walked. -/
import Derived.Test.YtlaingmhdgpkdaaGreatDoorZE
open Go Go.Vg Go.RowKit Go.Proofs Go.Proofs.YtlaingmhdgpkdaaGreatDoor
namespace Go.Proofs.YtlaingmhdgpkdaaGreatDoor
set_option linter.unusedSimpArgs false

abbrev Lab := List UInt8 × List UInt8
def labC (x : Lab) : List Value := [S x.1, S x.2]
abbrev Labs (w : World) (v : Value) (ls : List Lab) : Prop := Sli w v 2 (ls.map labC)
abbrev LO (w : World) (B : Nat) (v : Value) (ls : List Lab) : Prop := Owns w B v 64 2 (ls.map labC)
theorem lab1 (ls : List Lab) : ∀ y ∈ ls.map labC, ∀ c ∈ y, c.oneCell' = true := by
  intro y hy c hc
  obtain ⟨x, _, rfl⟩ := List.mem_map.1 hy
  simp only [labC, List.mem_cons, List.not_mem_nil, or_false] at hc
  rcases hc with rfl | rfl <;> rfl
theorem labLen (ls : List Lab) : ∀ x ∈ ls.map labC, x.length = 2 := by
  intro y hy
  obtain ⟨x, _, rfl⟩ := List.mem_map.1 hy
  rfl
def partP (p : List UInt8) : Option Lab := match decP true (Lib.cut p [61]).1, decP true (Lib.cut p [61]).2.1 with
  | some n, some v => some (n, v)
  | _, _ => none
def paramsL : List (List UInt8) → Option (List Lab)
  | [] => some []
  | p :: r => if p = [] then paramsL r else match partP p with
    | some x => (paramsL r).map (x :: ·)
    | none => none
def parAt (ps : List (List UInt8)) (i : Nat) (acc : List Lab) : Prop := (paramsL (ps.drop i)).map (acc ++ ·) = paramsL ps
theorem parAt_skip {ps : List (List UInt8)} {i : Nat} {acc : List Lab} (h : parAt ps i acc) (hg : ps[i]? = some []) : parAt ps (i + 1) acc := by
  obtain ⟨hlt, he⟩ := List.getElem?_eq_some_iff.1 hg
  unfold parAt at h ⊢
  rw [← h, List.drop_eq_getElem_cons hlt, he]; rfl
theorem parAt_add {ps : List (List UInt8)} {i : Nat} {acc : List Lab} {p : List UInt8} {x : Lab} (h : parAt ps i acc) (hg : ps[i]? = some p) (hp : p ≠ []) (hx : partP p = some x) : parAt ps (i + 1) (acc ++ [x]) := by
  obtain ⟨hlt, he⟩ := List.getElem?_eq_some_iff.1 hg
  unfold parAt at h ⊢
  rw [← h, List.drop_eq_getElem_cons hlt, he]
  simp only [paramsL]
  rw [if_neg hp, hx]
  cases paramsL (ps.drop (i + 1)) <;> simp
theorem parAt_none {ps : List (List UInt8)} {i : Nat} {acc : List Lab} {p : List UInt8} (h : parAt ps i acc) (hg : ps[i]? = some p) (hp : p ≠ []) (hx : partP p = none) : paramsL ps = none := by
  obtain ⟨hlt, he⟩ := List.getElem?_eq_some_iff.1 hg
  unfold parAt at h
  rw [← h, List.drop_eq_getElem_cons hlt, he]
  simp only [paramsL]
  rw [if_neg hp, hx]; rfl
theorem parAt_end {ps : List (List UInt8)} {i : Nat} {acc : List Lab} (h : parAt ps i acc) (hi : ps.length ≤ i) : paramsL ps = some acc := by
  unfold parAt at h
  rw [← h, List.drop_of_length_le hi]; simp [paramsL]
end Go.Proofs.YtlaingmhdgpkdaaGreatDoor
