/- vigillaw17: a number in digits, walked. -/
import Derived.Test.YtlaingmhdgpkdaaGreatDoorZL
open Go Go.Vg Go.RowKit Go.Proofs Go.Proofs.YtlaingmhdgpkdaaGreatDoor
namespace Go.Proofs.YtlaingmhdgpkdaaGreatDoor
set_option linter.unusedSimpArgs false

def digF : Nat → Nat → List UInt8
  | 0, n => [byI (48 + (n : Int))]
  | f + 1, n => if n < 10 then [byI (48 + (n : Int))] else digF f (n / 10) ++ [byI (48 + ((n % 10 : Nat) : Int))]
theorem digF_len : ∀ (f n : Nat), (digF f n).length ≤ f + 1
  | 0, n => by simp [digF]
  | f + 1, n => by
    simp only [digF]
    split
    · simp
    · have := digF_len f (n / 10)
      rw [List.length_append, List.length_cons, List.length_nil]; omega
end Go.Proofs.YtlaingmhdgpkdaaGreatDoor
