/- LabelsMatch: whatever the labels and the matchers, the law of the matchers of equality returns true and leaves what came in alone. Conditions: none beyond the statement's own. -/
import Derived.Test.YtfffblopkaandaaDoorLCard
import Derived.Test.YtfffblopkaandaaDoorLM
open Go Go.Vg Go.RowKit Go.Proofs Go.Proofs.YtfffblopkaandaaDoor
namespace Go.Proofs.YtfffblopkaandaaDoor
set_option linter.unusedSimpArgs false
open Go.Lib Go.Shelf Go.ChangeShapes Go.WideShapes Go.ChangeAt

theorem open_mats {H : Type} {enc : TypeId × Value → H} {w : World} {sp : Nat → Bool} {hd : Bool} {b : Nat} {v : Value} {d : DataW H} {p : List MemPlace}
    (hval : OkW Tryd.prog w b 37 v) (h : DataW.Trod enc Tryd.prog w 0 sp hd 37 v d p) : ∃ ms : List Mat, Sli w v 3 (ms.map matC) ∧ ∀ x ∈ ms, True := by
  refine open_rows (t := 37) (e := 40) matC (fun _ => True) (tb.ok _ _ rfl) (by kernel_rfl) (fun n cs x hx => ?_) hval h
  obtain ⟨u0, u1, u2, n, y0, y1, y2, rfl, k0, k1, k2⟩ := open_st3 (tb.ok _ _ rfl) (by kernel_rfl) rfl rfl rfl (by kernel_rfl) (by kernel_rfl) (by kernel_rfl) hx
  obtain ⟨a, ha, _⟩ := open_int1 (tb.ok _ _ rfl) k0
  obtain ⟨c, hc, _⟩ := open_str (tb.ok _ _ rfl) k1
  obtain ⟨e, he, _⟩ := open_str (tb.ok _ _ rfl) k2
  cases ha; cases hc; cases he
  exact ⟨(a, c, e), rfl, trivial⟩

set_option maxRecDepth 100000 in
theorem contract_labelsMatch (H : Type) (enc : TypeId × Value → H) (W : World) (base : Nat) (args : Array Value) (ds gs : List (DataW H)) (before : List MemPlace)
    (hval : ∀ (j : Nat) t v, Tryd.f5.params[j]? = some t → args[j]? = some v → Value.okWide Tryd.prog W .any base t v)
    (hW : DataW.Whole enc Tryd.prog Tryd.f5.params.toList Rows.labelsMatchSpec.vars false W args.toList ds gs before) (hL : laidMetH Tryd.prog Rows.labelsMatchRow.laid W) :
    Calls Tryd.prog 5 args W fun e W' => ∃ v, e = .returned v ∧ Rows.labelsMatchSpec.post enc Tryd.prog Tryd.f5 false true false false W args v W' := by
  have hW' := hW
  obtain ⟨p, q, hA0, hV, rfl, hfz, hnd⟩ := hW
  have hA : DataW.TrodAll enc Tryd.prog W 0 (fun _ => true) true Tryd.f5.params.toList args.toList ds p := hA0
  rw [Tryd.params5] at hA hval
  obtain ⟨v0, vs0, d0, ds0, p0, q0, hargs, rfl, rfl, h0, r0⟩ := trodAll_cons hA
  obtain ⟨v1, vs1, d1, ds1, p1, q1, rfl, rfl, rfl, h1, r1⟩ := trodAll_cons r0
  obtain ⟨rfl, rfl, rfl⟩ := trodAll_nil r1
  obtain rfl : args = #[v0, v1] := by cases args; simp_all
  have k0 := OkW.mk (hval 0 _ v0 rfl rfl)
  have k1 := OkW.mk (hval 1 _ v1 rfl rfl)
  obtain ⟨ls, hls, hz⟩ := open_labs k0 h0
  obtain ⟨ms, hms, _⟩ := open_mats k1 h1
  refine Calls.mono (match_ok v0 v1 ls ms W hls hms hz (tabs hL)) ?_
  rintro e W' ⟨v, rfl, rfl, hx⟩
  exact ⟨_, rfl, law_post laidOut (by kernel_rfl) (tb := 4) rfl (tb.ok _ _ rfl) rfl hW' rfl hx⟩
theorem reads_labelsMatch (os : Os) {H : Type} (enc : TypeId × Value → H) : ∃ places, DataW.whole enc Tryd.prog ((laidWorld os).forCall (fun _ _ => 0) ⟨#[], #[.slice none 0 0, .slice none 0 0], []⟩).memory Tryd.f5.params.toList Rows.labelsMatchSpec.vars false #[.slice none 0 0, .slice none 0 0].toList 8 = some ([.nil, .nil], [], places) :=
  ⟨[], by kernel_rfl⟩
set_option maxRecDepth 100000 in
theorem lifted_labelsMatch (os : Os) (started : os.Started) (H : Type) (enc : TypeId × Value → H) (F : Stop.Interp) :
    ReturnsInHanded {} Tryd.checked os 5 .any ((OpenSpec.ofChange Rows.labelsMatchSpec).preRow enc Tryd.prog Tryd.f5 Rows.labelsMatchRow.domain false Rows.labelsMatchRow.laid) (((OpenSpec.ofChange Rows.labelsMatchSpec).at F).post enc Tryd.prog Tryd.f5 false true false false) := by
  obtain ⟨places, hx⟩ := reads_labelsMatch os enc
  refine returnsInHanded_of_row (C := Tryd.checked) (s := OpenSpec.ofChange Rows.labelsMatchSpec) own started (by kernel_rfl) Tryd.func5
    (witness_row_at (enc := enc) (C := Tryd.checked) false (laidWorld os) #[.slice none 0 0, .slice none 0 0] rfl (by kernel_rfl) (by kernel_rfl) (by kernel_rfl)
      (OpenSpec.preRow_of_cond 8 hx (by kernel_rfl) (fun k hk => by cases hk) (by kernel_rfl) (laid_met os _))) ?_
  intro W base args ds gs before hval hW _ _ _ hL _ _
  exact contract_labelsMatch H enc W base args ds gs before hval hW hL
theorem said_labelsMatch : Rows.LabelsMatchSaid :=
  OpenClaim.holds_of_cond 5 Tryd.f5 rfl rfl rfl rfl rfl rfl rfl ⟨rfl, rfl, rfl, rfl, rfl⟩ rfl rfl rfl rfl rfl (by kernel_rfl) Tryd.func5 (by kernel_rfl)
    (of_decide_eq_true (by kernel_rfl)) (by unfold Func.isWrapper; first | (rw [if_pos (by decide +kernel)]; kernel_rfl) | (rw [if_neg (by decide +kernel)]; exact ⟨rfl, rfl⟩))
    (fun os started H enc _ F => by rw [OpenClaim.pre_eq_preRow]; exact lifted_labelsMatch os started H enc F)
theorem plain_labelsMatch (f : FuncId) (fn : Func) (hf : Tryd.pinned.checked.prog.funcNamed "vigil/vigillaw02.LabelsMatch" = some f) (hfn : Tryd.pinned.checked.prog.funcs[f]? = some fn) :
    false = Tryd.pinned.checked.prog.looks [] ∧ ∀ (j : Nat) t, fn.params[j]? = some t → Tryd.pinned.checked.prog.wantsStandIn t = false := by
  obtain rfl : f = 5 := Option.some.inj ((show Tryd.prog.funcNamed "vigil/vigillaw02.LabelsMatch" = some 5 by kernel_rfl).symm.trans hf) |>.symm
  obtain rfl : fn = Tryd.f5 := (Option.some.inj (Tryd.func5.symm.trans hfn)).symm
  refine ⟨by kernel_rfl, fun j t ht => ?_⟩
  rw [Tryd.params5] at ht
  have hm : t ∈ #[22, 37] := Array.mem_of_getElem? ht
  simp only [List.mem_toArray, List.mem_cons, List.not_mem_nil, or_false] at hm
  rcases hm with rfl | rfl
  · exact (show Tryd.prog.wantsStandIn 22 = false by kernel_rfl)
  · exact (show Tryd.prog.wantsStandIn 37 = false by kernel_rfl)
/-- whatever the labels and matchers: the card -/
theorem LabelsMatch_holds : Rows.LabelsMatchCardSaid :=
  Claim7.holds_tied_plain_at .later [] _ _ _ _ said_labelsMatch (fun _ h => by cases h) (by kernel_rfl) (fun _ h => by cases h) labelsMatch_row_tie rfl ⟨rfl, rfl⟩ (by kernel_rfl) rfl plain_labelsMatch (by kernel_rfl)
end Go.Proofs.YtfffblopkaandaaDoor
