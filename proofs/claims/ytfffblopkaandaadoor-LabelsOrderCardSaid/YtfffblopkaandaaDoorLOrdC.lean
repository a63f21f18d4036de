/- LabelsOrder: whatever three lists of labels, the law of the order of sets returns true and leaves what came in alone. Conditions: none beyond the statement's own. -/
import Derived.Test.YtfffblopkaandaaDoorLCard
import Derived.Test.YtfffblopkaandaaDoorLOrd
open Go Go.Vg Go.RowKit Go.Proofs Go.Proofs.YtfffblopkaandaaDoor
namespace Go.Proofs.YtfffblopkaandaaDoor
set_option linter.unusedSimpArgs false
open Go.Lib Go.Shelf Go.ChangeShapes Go.WideShapes Go.ChangeAt

set_option maxRecDepth 100000 in
theorem contract_labelsOrder (H : Type) (enc : TypeId × Value → H) (W : World) (base : Nat) (args : Array Value) (ds gs : List (DataW H)) (before : List MemPlace)
    (hval : ∀ (j : Nat) t v, Tryd.f7.params[j]? = some t → args[j]? = some v → Value.okWide Tryd.prog W .any base t v)
    (hW : DataW.Whole enc Tryd.prog Tryd.f7.params.toList Rows.labelsOrderSpec.vars false W args.toList ds gs before) (hL : laidMetH Tryd.prog Rows.labelsOrderRow.laid W) :
    Calls Tryd.prog 7 args W fun e W' => ∃ v, e = .returned v ∧ Rows.labelsOrderSpec.post enc Tryd.prog Tryd.f7 false true false false W args v W' := by
  have hW' := hW
  obtain ⟨p, q, hA0, hV, rfl, hfz, hnd⟩ := hW
  have hA : DataW.TrodAll enc Tryd.prog W 0 (fun _ => true) true Tryd.f7.params.toList args.toList ds p := hA0
  rw [Tryd.params7] at hA hval
  obtain ⟨v0, vs0, d0, ds0, p0, q0, hargs, rfl, rfl, h0, r0⟩ := trodAll_cons hA
  obtain ⟨v1, vs1, d1, ds1, p1, q1, rfl, rfl, rfl, h1, r1⟩ := trodAll_cons r0
  obtain ⟨v2, vs2, d2, ds2, p2, q2, rfl, rfl, rfl, h2, r2⟩ := trodAll_cons r1
  obtain ⟨rfl, rfl, rfl⟩ := trodAll_nil r2
  obtain rfl : args = #[v0, v1, v2] := by cases args; simp_all
  have k0 := OkW.mk (hval 0 _ v0 rfl rfl)
  have k1 := OkW.mk (hval 1 _ v1 rfl rfl)
  have k2 := OkW.mk (hval 2 _ v2 rfl rfl)
  obtain ⟨x0, hx0, hz0⟩ := open_labs k0 h0
  obtain ⟨x1, hx1, hz1⟩ := open_labs k1 h1
  obtain ⟨x2, hx2, hz2⟩ := open_labs k2 h2
  refine Calls.mono (order_ok v0 v1 v2 x0 x1 x2 W hx0 hx1 hx2 hz0 hz1 hz2 (tabs hL)) ?_
  rintro e W' ⟨v, rfl, rfl, hx⟩
  exact ⟨_, rfl, law_post laidOut (by kernel_rfl) (tb := 4) rfl (tb.ok _ _ rfl) rfl hW' rfl hx⟩
theorem reads_labelsOrder (os : Os) {H : Type} (enc : TypeId × Value → H) : ∃ places, DataW.whole enc Tryd.prog ((laidWorld os).forCall (fun _ _ => 0) ⟨#[], #[.slice none 0 0, .slice none 0 0, .slice none 0 0], []⟩).memory Tryd.f7.params.toList Rows.labelsOrderSpec.vars false #[.slice none 0 0, .slice none 0 0, .slice none 0 0].toList 8 = some ([.nil, .nil, .nil], [], places) :=
  ⟨[], by kernel_rfl⟩
set_option maxRecDepth 100000 in
theorem lifted_labelsOrder (os : Os) (started : os.Started) (H : Type) (enc : TypeId × Value → H) (F : Stop.Interp) :
    ReturnsInHanded {} Tryd.checked os 7 .any ((OpenSpec.ofChange Rows.labelsOrderSpec).preRow enc Tryd.prog Tryd.f7 Rows.labelsOrderRow.domain false Rows.labelsOrderRow.laid) (((OpenSpec.ofChange Rows.labelsOrderSpec).at F).post enc Tryd.prog Tryd.f7 false true false false) := by
  obtain ⟨places, hx⟩ := reads_labelsOrder os enc
  refine returnsInHanded_of_row (C := Tryd.checked) (s := OpenSpec.ofChange Rows.labelsOrderSpec) own started (by kernel_rfl) Tryd.func7
    (witness_row_at (enc := enc) (C := Tryd.checked) false (laidWorld os) #[.slice none 0 0, .slice none 0 0, .slice none 0 0] rfl (by kernel_rfl) (by kernel_rfl) (by kernel_rfl)
      (OpenSpec.preRow_of_cond 8 hx (by kernel_rfl) (fun k hk => by cases hk) (by kernel_rfl) (laid_met os _))) ?_
  intro W base args ds gs before hval hW _ _ _ hL _ _
  exact contract_labelsOrder H enc W base args ds gs before hval hW hL
theorem said_labelsOrder : Rows.LabelsOrderSaid :=
  OpenClaim.holds_of_cond 7 Tryd.f7 rfl rfl rfl rfl rfl rfl rfl ⟨rfl, rfl, rfl, rfl, rfl⟩ rfl rfl rfl rfl rfl (by kernel_rfl) Tryd.func7 (by kernel_rfl)
    (of_decide_eq_true (by kernel_rfl)) (by unfold Func.isWrapper; first | (rw [if_pos (by decide +kernel)]; kernel_rfl) | (rw [if_neg (by decide +kernel)]; exact ⟨rfl, rfl⟩))
    (fun os started H enc _ F => by rw [OpenClaim.pre_eq_preRow]; exact lifted_labelsOrder os started H enc F)
theorem plain_labelsOrder (f : FuncId) (fn : Func) (hf : Tryd.pinned.checked.prog.funcNamed "vigil/vigillaw02.LabelsOrder" = some f) (hfn : Tryd.pinned.checked.prog.funcs[f]? = some fn) :
    false = Tryd.pinned.checked.prog.looks [] ∧ ∀ (j : Nat) t, fn.params[j]? = some t → Tryd.pinned.checked.prog.wantsStandIn t = false := by
  obtain rfl : f = 7 := Option.some.inj ((show Tryd.prog.funcNamed "vigil/vigillaw02.LabelsOrder" = some 7 by kernel_rfl).symm.trans hf) |>.symm
  obtain rfl : fn = Tryd.f7 := (Option.some.inj (Tryd.func7.symm.trans hfn)).symm
  refine ⟨by kernel_rfl, fun j t ht => ?_⟩
  rw [Tryd.params7] at ht
  have hm : t ∈ #[22, 22, 22] := Array.mem_of_getElem? ht
  simp only [List.mem_toArray, List.mem_cons, List.not_mem_nil, or_false] at hm
  rcases hm with rfl | rfl | rfl
  · exact (show Tryd.prog.wantsStandIn 22 = false by kernel_rfl)
  · exact (show Tryd.prog.wantsStandIn 22 = false by kernel_rfl)
  · exact (show Tryd.prog.wantsStandIn 22 = false by kernel_rfl)
/-- LabelsOrder: whatever three lists of labels, the law of the order of sets returns true and leaves what came in alone. -/
theorem LabelsOrder_holds : Rows.LabelsOrderCardSaid :=
  Claim7.holds_tied_plain_at .later [] _ _ _ _ said_labelsOrder (fun _ h => by cases h) (by kernel_rfl) (fun _ h => by cases h) labelsOrder_row_tie rfl ⟨rfl, rfl⟩ (by kernel_rfl) rfl plain_labelsOrder (by kernel_rfl)
end Go.Proofs.YtfffblopkaandaaDoor
