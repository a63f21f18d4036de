/- What all cards of this seat share: the tables of the library, as the rows lay them, and a world that holds them. -/
import Derived.Test.YtlaingmhdgpkdaaGreatDoorZU
import Derived.Test.YtlaingmhdgpkdaaGreatDoorGV1
import Derived.Test.YtlaingmhdgpkdaaGreatDoorTie
import Derived.Test.YtlaingmhdgpkdaaGreatDoorCards
import Derived.Deep.DeepWitnessRowRef
import Derived.Lib.LaidIn
import Derived.Lib.LaidU8T
import Derived.Great.CaseRows
import Derived.PinnedBridge
import Derived.Shelf.Vars
import Derived.SizedLaws
open Go Go.Vg Go.RowKit Go.Proofs Go.Proofs.YtlaingmhdgpkdaaGreatDoor
namespace Go.Proofs.YtlaingmhdgpkdaaGreatDoor
set_option linter.unusedSimpArgs false
open Go.Lib Go.Shelf Go.ChangeShapes Go.WideShapes Go.ChangeAt

theorem own : ownKnob Tryz.prog.godebug = none := by kernel_rfl
theorem laidOut : laidOutB Tryz.prog = true := by kernel_rfl
def laidL : List (String × DataW Unit) := [("unicode/utf8.acceptRanges", Rows.laid_unicode_utf8_acceptRanges), ("bytes.ErrTooLarge", Rows.laid_bytes_ErrTooLarge), ("unicode.CaseRanges", Rows.laid_unicode_CaseRanges), ("unicode/utf8.first", Rows.laid_unicode_utf8_first)]
theorem acc_eq : Rows.laid_unicode_utf8_acceptRanges (H := Unit) = Lib.acceptData := by kernel_rfl
theorem laidL_eq : laidL = [("unicode/utf8.acceptRanges", Lib.acceptData), ("bytes.ErrTooLarge", Rows.laid_bytes_ErrTooLarge), ("unicode.CaseRanges", Lib.caseData), ("unicode/utf8.first", Lib.firstData)] := by
  unfold laidL Rows.laid_unicode_utf8_first Rows.laid_unicode_CaseRanges
  rw [acc_eq, Pinned.utf8First_eq, Pinned.caseRanges_eq]
theorem tabs {W : World} (hL : laidMetH Tryz.prog laidL W) : Tabs W := by
  rw [laidL_eq] at hL
  exact utf8Tabs_of_readsT (U8Types.of196 Tryz.laysValid) ⟨by kernel_rfl, by kernel_rfl, by kernel_rfl, by kernel_rfl, by kernel_rfl, by kernel_rfl, by kernel_rfl⟩ (Lib.laidMet.reads hL (.tail _ (.tail _ (.tail _ (.head _))))) (Lib.laidMet.reads hL (.head _))
theorem maxC {W : World} (hS : W.ShapedOpen Tryz.prog) : MaxC W :=
  cell_of_shapedOpen_int (t := 3) (zero := #[.int .i64 0]) hS (of_decide_eq_true (by kernel_rfl)) (by kernel_rfl) rfl (by kernel_rfl) (by kernel_rfl) (tb.ok _ _ rfl)

/-- a world that holds the tables -/
noncomputable def laidWorld (os : Os) : World :=
  let N := (World.settled Tryz.prog os).heap.size
  let w0 := World.holding Tryz.prog os ⟨#[.cells Lib.caseCells5 189, .cells #[.string ⟨#[98, 121, 116, 101, 115, 46, 66, 117, 102, 102, 101, 114, 58, 32, 116, 111, 111, 32, 108, 97, 114, 103, 101]⟩] 204], #[], []⟩
  let put (h : Array Obj) (g : Nat) (cs : Array Value) : Array Obj := h.modify g fun
    | .cells _ t frozen => .cells cs t frozen
    | o => o
  let h1 := put w0.heap 2 (Lib.firstTab.map fun z => Value.int .u8 z).toArray
  let h2 := put h1 3 ((List.range 16).flatMap fun i => [Value.int .u8 (Lib.accLo i), Value.int .u8 (Lib.accHi i)]).toArray
  let h3 := put h2 5 #[.slice (some ⟨N, 0, none⟩) 336 336]
  let h4 := put h3 1 #[.iface 190 (.pointer (some ⟨N + 1, 0, none⟩))]
  { w0 with heap := h4 }
theorem caseTypes : Great.CTypes Tryz.prog 182 189 187 145 21 :=
  ⟨Tryz.underlying182, Tryz.underlying189, Tryz.underlying187, Tryz.underlying145, Tryz.underlying21, by kernel_rfl, by kernel_rfl, by kernel_rfl, by kernel_rfl⟩
set_option maxRecDepth 100000 in
theorem laid_met (os : Os) (args : Array Value) : laidMet Tryz.prog laidL ((laidWorld os).forCall (fun _ _ => 0) ⟨#[], args, []⟩).memory := by
  rewrite [laidL_eq]
  have h1 : LaidIn Tryz.prog ((laidWorld os).forCall (fun _ _ => 0) ⟨#[], args, []⟩).memory [("unicode/utf8.acceptRanges", Lib.acceptData)] [3] := LaidIn.of_run _ 8 (by kernel_rfl) (by kernel_rfl) (by kernel_rfl) (by kernel_rfl)
  have h2 : LaidIn Tryz.prog ((laidWorld os).forCall (fun _ _ => 0) ⟨#[], args, []⟩).memory [("unicode.CaseRanges", Lib.caseData)] [5, (World.settled Tryz.prog default).heap.size] :=
    Great.laidIn_case caseTypes Lib.caseT (by kernel_rfl) (by kernel_rfl) (of_decide_eq_true (by kernel_rfl)) Lib.rowsWf (tg := 182) (tb := 189) (by kernel_rfl) (by kernel_rfl) (of_decide_eq_true (by kernel_rfl))
  have h3 : LaidIn Tryz.prog ((laidWorld os).forCall (fun _ _ => 0) ⟨#[], args, []⟩).memory [("unicode/utf8.first", Lib.firstData)] [2] := LaidIn.of_run _ 8 (by kernel_rfl) (by kernel_rfl) (by kernel_rfl) (by kernel_rfl)
  have h0 : LaidIn Tryz.prog ((laidWorld os).forCall (fun _ _ => 0) ⟨#[], args, []⟩).memory [("bytes.ErrTooLarge", Rows.laid_bytes_ErrTooLarge)] [1, (World.settled Tryz.prog default).heap.size + 1] := LaidIn.of_run _ 8 (by kernel_rfl) (by kernel_rfl) (by kernel_rfl) (by kernel_rfl)
  exact (((h1.append h0 (by kernel_rfl)).append h2 (by kernel_rfl)).append h3 (by kernel_rfl)).met

/-- a text that came in -/
theorem openSd {H : Type} {enc : TypeId × Value → H} {P : Program} {w : World} {b : Nat} {sp : Nat → Bool} {hd : Bool} {t : Nat} {v : Value} {d : DataW H} {p : List MemPlace}
    (ht : P.underlying t = some .string) (hval : OkW P w b t v) (h : DataW.Trod enc P w 0 sp hd t v d p) : ∃ s : List UInt8, v = S s ∧ s.length ≤ 9223372036854775807 ∧ d = .lit (.string s) := by
  obtain ⟨s, rfl, hd', _, h2⟩ := Go.ChangeMaps.open_string ht hval.ok h
  exact ⟨s.data.toList, rfl, h2, by first | exact hd' | exact hd'.symm⟩
abbrev LabSz (x : Lab) : Prop := x.1.length ≤ 9223372036854775807 ∧ x.2.length ≤ 9223372036854775807
/-- labels that came in -/
theorem open_labs {H : Type} {enc : TypeId × Value → H} {w : World} {sp : Nat → Bool} {hd : Bool} {b : Nat} {v : Value} {d : DataW H} {p : List MemPlace}
    (hval : OkW Tryz.prog w b 27 v) (h : DataW.Trod enc Tryz.prog w 0 sp hd 27 v d p) : ∃ ls : List Lab, Labs w v ls ∧ ∀ x ∈ ls, LabSz x := by
  refine open_rows (t := 27) (e := 64) labC LabSz (tb.ok _ _ rfl) (by kernel_rfl) (fun n cs x hx => ?_) hval h
  obtain ⟨u0, u1, n, y0, y1, rfl, k0, k1⟩ := open_st2 (tb.ok _ _ rfl) (by kernel_rfl) rfl rfl (by kernel_rfl) (by kernel_rfl) hx
  obtain ⟨a, ha, hla⟩ := open_str (tb.ok _ _ rfl) k0
  obtain ⟨c, hc, hlc⟩ := open_str (tb.ok _ _ rfl) k1
  cases ha; cases hc
  exact ⟨(a, c), rfl, hla, hlc⟩
end Go.Proofs.YtlaingmhdgpkdaaGreatDoor
