/- What all cards of this seat share: the tables of the library, as the rows lay them, and a world that holds them. -/
import Derived.Test.YtlaingmhdgpkdaaDoorWU
import Derived.Test.YtlaingmhdgpkdaaDoorGV1
import Derived.Test.YtlaingmhdgpkdaaDoorTie
import Derived.Test.YtlaingmhdgpkdaaDoorCards
import Derived.Deep.DeepWitnessRowRef
import Derived.Lib.LaidIn
import Derived.Lib.LaidU8T
import Derived.Great.CaseRows
import Derived.PinnedBridge
import Derived.Shelf.Vars
import Derived.SizedLaws
open Go Go.Vg Go.RowKit Go.Proofs Go.Proofs.YtlaingmhdgpkdaaDoor
namespace Go.Proofs.YtlaingmhdgpkdaaDoor
set_option linter.unusedSimpArgs false
open Go.Lib Go.Shelf Go.ChangeShapes Go.WideShapes Go.ChangeAt

theorem own : ownKnob Tryd.prog.godebug = none := by kernel_rfl
theorem laidOut : laidOutB Tryd.prog = true := by kernel_rfl
def laidL : List (String × DataW Unit) := [("unicode/utf8.acceptRanges", Rows.laid_unicode_utf8_acceptRanges), ("unicode.CaseRanges", Rows.laid_unicode_CaseRanges), ("unicode/utf8.first", Rows.laid_unicode_utf8_first)]
theorem acc_eq : Rows.laid_unicode_utf8_acceptRanges (H := Unit) = Lib.acceptData := by kernel_rfl
theorem laidL_eq : laidL = [("unicode/utf8.acceptRanges", Lib.acceptData), ("unicode.CaseRanges", Lib.caseData), ("unicode/utf8.first", Lib.firstData)] := by
  unfold laidL Rows.laid_unicode_utf8_first Rows.laid_unicode_CaseRanges
  rw [acc_eq, Pinned.utf8First_eq, Pinned.caseRanges_eq]
theorem tabs {W : World} (hL : laidMetH Tryd.prog laidL W) : Tabs W := by
  rw [laidL_eq] at hL
  exact utf8Tabs_of_readsT (U8Types.of196 Tryd.laysValid) ⟨by kernel_rfl, by kernel_rfl, by kernel_rfl, by kernel_rfl, by kernel_rfl, by kernel_rfl, by kernel_rfl⟩ (Lib.laidMet.reads hL (.tail _ (.tail _ (.head _)))) (Lib.laidMet.reads hL (.head _))
theorem maxC {W : World} (hS : W.ShapedOpen Tryd.prog) : MaxC W :=
  cell_of_shapedOpen_int (t := 3) (zero := #[.int .i64 0]) hS (of_decide_eq_true (by kernel_rfl)) (by kernel_rfl) rfl (by kernel_rfl) (by kernel_rfl) (tb.ok _ _ rfl)

/-- a world that holds the tables -/
noncomputable def laidWorld (os : Os) : World :=
  let N := (World.settled Tryd.prog os).heap.size
  let w0 := World.holding Tryd.prog os ⟨#[.cells Lib.caseCells5 134], #[], []⟩
  let put (h : Array Obj) (g : Nat) (cs : Array Value) : Array Obj := h.modify g fun
    | .cells _ t frozen => .cells cs t frozen
    | o => o
  let h1 := put w0.heap 0 (Lib.firstTab.map fun z => Value.int .u8 z).toArray
  let h2 := put h1 1 ((List.range 16).flatMap fun i => [Value.int .u8 (Lib.accLo i), Value.int .u8 (Lib.accHi i)]).toArray
  let h3 := put h2 3 #[.slice (some ⟨N, 0, none⟩) 336 336]
  { w0 with heap := h3 }
theorem caseTypes : Great.CTypes Tryd.prog 126 134 132 119 21 :=
  ⟨Tryd.underlying126, Tryd.underlying134, Tryd.underlying132, Tryd.underlying119, Tryd.underlying21, by kernel_rfl, by kernel_rfl, by kernel_rfl, by kernel_rfl⟩
set_option maxRecDepth 100000 in
theorem laid_met (os : Os) (args : Array Value) : laidMet Tryd.prog laidL ((laidWorld os).forCall (fun _ _ => 0) ⟨#[], args, []⟩).memory := by
  rewrite [laidL_eq]
  have h1 : LaidIn Tryd.prog ((laidWorld os).forCall (fun _ _ => 0) ⟨#[], args, []⟩).memory [("unicode/utf8.acceptRanges", Lib.acceptData)] [1] := LaidIn.of_run _ 8 (by kernel_rfl) (by kernel_rfl) (by kernel_rfl) (by kernel_rfl)
  have h2 : LaidIn Tryd.prog ((laidWorld os).forCall (fun _ _ => 0) ⟨#[], args, []⟩).memory [("unicode.CaseRanges", Lib.caseData)] [3, (World.settled Tryd.prog default).heap.size] :=
    Great.laidIn_case caseTypes Lib.caseT (by kernel_rfl) (by kernel_rfl) (of_decide_eq_true (by kernel_rfl)) Lib.rowsWf (tg := 126) (tb := 134) (by kernel_rfl) (by kernel_rfl) (of_decide_eq_true (by kernel_rfl))
  have h3 : LaidIn Tryd.prog ((laidWorld os).forCall (fun _ _ => 0) ⟨#[], args, []⟩).memory [("unicode/utf8.first", Lib.firstData)] [0] := LaidIn.of_run _ 8 (by kernel_rfl) (by kernel_rfl) (by kernel_rfl) (by kernel_rfl)
  exact ((h1.append h2 (by kernel_rfl)).append h3 (by kernel_rfl)).met

/-- a text that came in -/
theorem openSd {H : Type} {enc : TypeId × Value → H} {P : Program} {w : World} {b : Nat} {sp : Nat → Bool} {hd : Bool} {t : Nat} {v : Value} {d : DataW H} {p : List MemPlace}
    (ht : P.underlying t = some .string) (hval : OkW P w b t v) (h : DataW.Trod enc P w 0 sp hd t v d p) : ∃ s : List UInt8, v = S s ∧ s.length ≤ 9223372036854775807 ∧ d = .lit (.string s) := by
  obtain ⟨s, rfl, hd', _, h2⟩ := Go.ChangeMaps.open_string ht hval.ok h
  exact ⟨s.data.toList, rfl, h2, by first | exact hd' | exact hd'.symm⟩
abbrev LabSz (x : Lab) : Prop := x.1.length ≤ 9223372036854775807 ∧ x.2.length ≤ 9223372036854775807
/-- labels that came in -/
theorem open_labs {H : Type} {enc : TypeId × Value → H} {w : World} {sp : Nat → Bool} {hd : Bool} {b : Nat} {v : Value} {d : DataW H} {p : List MemPlace}
    (hval : OkW Tryd.prog w b 25 v) (h : DataW.Trod enc Tryd.prog w 0 sp hd 25 v d p) : ∃ ls : List Lab, Labs w v ls ∧ ∀ x ∈ ls, LabSz x := by
  refine open_rows (t := 25) (e := 51) labC LabSz (tb.ok _ _ rfl) (by kernel_rfl) (fun n cs x hx => ?_) hval h
  obtain ⟨u0, u1, n, y0, y1, rfl, k0, k1⟩ := open_st2 (tb.ok _ _ rfl) (by kernel_rfl) rfl rfl (by kernel_rfl) (by kernel_rfl) hx
  obtain ⟨a, ha, hla⟩ := open_str (tb.ok _ _ rfl) k0
  obtain ⟨c, hc, hlc⟩ := open_str (tb.ok _ _ rfl) k1
  cases ha; cases hc
  exact ⟨(a, c), rfl, hla, hlc⟩
end Go.Proofs.YtlaingmhdgpkdaaDoor
