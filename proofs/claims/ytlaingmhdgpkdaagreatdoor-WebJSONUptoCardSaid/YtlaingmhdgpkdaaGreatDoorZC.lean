/- The reference's Decode, walked. -/
import Derived.Test.YtlaingmhdgpkdaaGreatDoorZB
open Go Go.Vg Go.RowKit Go.Proofs Go.Proofs.YtlaingmhdgpkdaaGreatDoor
namespace Go.Proofs.YtlaingmhdgpkdaaGreatDoor
set_option linter.unusedSimpArgs false

abbrev BO (w : World) (B : Nat) (v : Value) (xs : List UInt8) : Prop := Owns w B v 5 1 (bysC xs)
end Go.Proofs.YtlaingmhdgpkdaaGreatDoor
