/- What all cards of this seat share: the tables of UTF-8, as the rows lay them, and a world that holds them. -/
import Derived.Test.YtfffblopkaandaaDoorGL2
import Derived.Test.YtfffblopkaandaaDoorGV1
import Derived.Test.YtfffblopkaandaaDoorGV2
import Derived.Test.YtfffblopkaandaaDoorTie
import Derived.Test.YtfffblopkaandaaDoorCards
import Derived.Deep.DeepWitnessRowRef
import Derived.Lib.LaidIn
import Derived.Lib.LaidU8T
import Derived.PinnedBridge
open Go Go.Vg Go.RowKit Go.Proofs Go.Proofs.YtfffblopkaandaaDoor
namespace Go.Proofs.YtfffblopkaandaaDoor
set_option linter.unusedSimpArgs false
open Go.Lib Go.Shelf Go.ChangeShapes Go.WideShapes Go.ChangeAt

theorem own : ownKnob Tryd.prog.godebug = none := by kernel_rfl
theorem laidOut : laidOutB Tryd.prog = true := by kernel_rfl
def laidL : List (String × DataW Unit) := [("unicode/utf8.acceptRanges", Rows.laid_unicode_utf8_acceptRanges), ("unicode/utf8.first", Rows.laid_unicode_utf8_first)]
theorem acc_eq : Rows.laid_unicode_utf8_acceptRanges (H := Unit) = Lib.acceptData := by kernel_rfl
theorem laidL_eq : laidL = [("unicode/utf8.acceptRanges", Lib.acceptData), ("unicode/utf8.first", Lib.firstData)] := by
  unfold laidL Rows.laid_unicode_utf8_first
  rw [acc_eq, Pinned.utf8First_eq]
theorem tabs {W : World} (hL : laidMetH Tryd.prog laidL W) : Tabs W := by
  rw [laidL_eq] at hL
  exact utf8Tabs_of_readsT (U8Types.of196 Tryd.laysValid) ⟨by kernel_rfl, by kernel_rfl, by kernel_rfl, by kernel_rfl, by kernel_rfl, by kernel_rfl, by kernel_rfl⟩ (Lib.laidMet.reads hL (.tail _ (.head _))) (Lib.laidMet.reads hL (.head _))

/-- a world that holds the tables -/
noncomputable def laidWorld (os : Os) : World :=
  let w0 := World.holding Tryd.prog os ⟨#[], #[], []⟩
  let put (h : Array Obj) (g : Nat) (cs : Array Value) : Array Obj := h.modify g fun
    | .cells _ t frozen => .cells cs t frozen
    | o => o
  let h1 := put w0.heap 0 (Lib.firstTab.map fun z => Value.int .u8 z).toArray
  let h2 := put h1 1 ((List.range 16).flatMap fun i => [Value.int .u8 (Lib.accLo i), Value.int .u8 (Lib.accHi i)]).toArray
  { w0 with heap := h2 }
set_option maxRecDepth 100000 in
theorem laid_met (os : Os) (args : Array Value) : laidMet Tryd.prog laidL ((laidWorld os).forCall (fun _ _ => 0) ⟨#[], args, []⟩).memory := by
  rewrite [laidL_eq]
  exact (LaidIn.of_run (l := [("unicode/utf8.acceptRanges", Lib.acceptData), ("unicode/utf8.first", Lib.firstData)]) [0, 1] 8 (by kernel_rfl) (by kernel_rfl) (by kernel_rfl) (by kernel_rfl)).met

/-- labels that came in -/
theorem open_labs {H : Type} {enc : TypeId × Value → H} {w : World} {sp : Nat → Bool} {hd : Bool} {b : Nat} {v : Value} {d : DataW H} {p : List MemPlace}
    (hval : OkW Tryd.prog w b 22 v) (h : DataW.Trod enc Tryd.prog w 0 sp hd 22 v d p) : ∃ ls : List Lab, Labs w v ls ∧ ∀ x ∈ ls, LabSz x := by
  refine open_rows (t := 22) (e := 28) labC LabSz (tb.ok _ _ rfl) (by kernel_rfl) (fun n cs x hx => ?_) hval h
  obtain ⟨u0, u1, n, y0, y1, rfl, k0, k1⟩ := open_st2 (tb.ok _ _ rfl) (by kernel_rfl) rfl rfl (by kernel_rfl) (by kernel_rfl) hx
  obtain ⟨a, ha, hla⟩ := open_str (tb.ok _ _ rfl) k0
  obtain ⟨c, hc, hlc⟩ := open_str (tb.ok _ _ rfl) k1
  cases ha; cases hc
  exact ⟨(a, c), rfl, hla, hlc⟩
def strC (s : List UInt8) : List Value := [S s]
/-- texts that came in -/
theorem open_strs {H : Type} {enc : TypeId × Value → H} {w : World} {sp : Nat → Bool} {hd : Bool} {b : Nat} {v : Value} {d : DataW H} {p : List MemPlace}
    (hval : OkW Tryd.prog w b 42 v) (h : DataW.Trod enc Tryd.prog w 0 sp hd 42 v d p) : ∃ ss : List (List UInt8), Sli w v 1 (ss.map strC) ∧ ∀ x ∈ ss, Sz x := by
  refine open_rows (t := 42) (e := 9) strC Sz (tb.ok _ _ rfl) (by kernel_rfl) (fun n cs x hx => ?_) hval h
  obtain ⟨a, ha, hla⟩ := open_str (tb.ok _ _ rfl) hx
  exact ⟨a, ha, hla⟩
/-- bytes that came in -/
theorem open_bys {H : Type} {enc : TypeId × Value → H} {w : World} {sp : Nat → Bool} {hd : Bool} {b : Nat} {v : Value} {d : DataW H} {p : List MemPlace}
    (hval : OkW Tryd.prog w b 49 v) (h : DataW.Trod enc Tryd.prog w 0 sp hd 49 v d p) : ∃ l : List UInt8, By w v l ∧ ∀ x ∈ l, True := by
  refine open_rows (t := 49) (e := 5) (fun c => [U c]) (fun _ => True) (tb.ok _ _ rfl) (by kernel_rfl) (fun n cs x hx => ?_) hval h
  obtain ⟨m, rfl, hm⟩ := open_int1 (tb.ok _ _ rfl) hx
  have := wf_u8 hm
  have e : ((UInt8.ofNat m.toNat).toNat : Int) = m := by
    have h1 : m.toNat < 256 := by omega
    rw [UInt8.toNat_ofNat_of_lt' h1]; omega
  refine ⟨UInt8.ofNat m.toNat, ?_, trivial⟩
  simp only [U, e]
end Go.Proofs.YtfffblopkaandaaDoor
