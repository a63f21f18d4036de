/- WebParams: whatever text, names and stop, the law of parameters returns true and leaves what came in alone. Conditions: none beyond the statement's own. -/
import Derived.Test.YtlaingmhdgpkdaaDoorWCard
import Derived.Test.YtlaingmhdgpkdaaDoorV29
import Derived.Test.YtlaingmhdgpkdaaDoorWPa
open Go Go.Vg Go.RowKit Go.Proofs Go.Proofs.YtlaingmhdgpkdaaDoor
namespace Go.Proofs.YtlaingmhdgpkdaaDoor
set_option linter.unusedSimpArgs false
open Go.Lib Go.Shelf Go.ChangeShapes Go.WideShapes Go.ChangeAt
set_option maxRecDepth 100000 in
/-- what is asked, opened -/
theorem open_asked {H : Type} {enc : TypeId × Value → H} {w : World} {sp : Nat → Bool} {hd : Bool} {b : Nat} {v : Value} {d : DataW H} {p : List MemPlace}
    (hval : OkW Tryd.prog w b 34 v) (h : DataW.Trod enc Tryd.prog w 0 sp hd 34 v d p) : ∃ (s : List UInt8) (plus : Bool) (ns : List (List UInt8)) (stop : Int) (u : Value), v = .agg ⟨[S s, .bool plus, u, .int .i64 stop]⟩ ∧ s.length ≤ 9223372036854775807 ∧ Strs w u ns ∧ (∀ n ∈ ns, n.length ≤ 9223372036854775807) ∧ (Lit.int .i64 stop).wf = true := by
  obtain ⟨c0, c1, c2, c3, y0, y1, y2, y3, n, rfl, -, -, k0, k1, k2, k3⟩ := Go.Joins.open_agg4 (tb.ok _ _ rfl) (by kernel_rfl) (by kernel_rfl) hval.ok h
  obtain ⟨a, ha, hla⟩ := open_str (tb.ok _ _ rfl) k0
  obtain ⟨m, hm⟩ := open_bool1 (tb.ok _ _ rfl) k1
  obtain ⟨q, hq, hwq⟩ := open_int1 (tb.ok _ _ rfl) k3
  cases ha; cases hm; cases hq
  have hfo : OkW Tryd.prog w b 32 c2 := field_ok (t := 34) (u := 32) (e := 9) (i := 2) (tb.ok 34 _ rfl) hval (ts := [9, 4, 32, 3]) (by kernel_rfl) rfl rfl (tb.ok 32 _ rfl)
  obtain ⟨ls, h1, h2⟩ := open_rows1 (t := 32) (e := 9) (k := 1) strC (fun s => s.length ≤ 9223372036854775807) (tb.ok _ _ rfl) (by kernel_rfl) (fun n cs x hx => by
    obtain ⟨a, ha, hla⟩ := open_str (tb.ok _ _ rfl) hx
    exact ⟨a, ha, hla⟩) hfo k2
  exact ⟨a, m, ls, q, c2, rfl, hla, h1, h2, hwq⟩
set_option maxRecDepth 100000 in
theorem contract_webParams (H : Type) (enc : TypeId × Value → H) (W : World) (base : Nat) (args : Array Value) (ds gs : List (DataW H)) (before : List MemPlace)
    (hval : ∀ (j : Nat) t v, Tryd.f4.params[j]? = some t → args[j]? = some v → Value.okWide Tryd.prog W .any base t v)
    (hW : DataW.Whole enc Tryd.prog Tryd.f4.params.toList Rows.webParamsSpec.vars false W args.toList ds gs before) (hsz : (DataW.weightsEach Tryd.prog (Tryd.f4.params.toList ++ (OpenSpec.ofChange Rows.webParamsSpec).bare.plain.varTypes Tryd.prog) (ds ++ gs)).all (· ≤ reachBytes) = true) (hL : laidMetH Tryd.prog Rows.webParamsRow.laid W) (hS : W.ShapedOpen Tryd.prog) :
    Calls Tryd.prog 4 args W fun e W' => ∃ v, e = .returned v ∧ Rows.webParamsSpec.post enc Tryd.prog Tryd.f4 false true false false W args v W' := by
  have hW' := hW
  obtain ⟨p, q, hA0, hV, rfl, hfz, hnd⟩ := hW
  have hA : DataW.TrodAll enc Tryd.prog W 0 (fun _ => true) true Tryd.f4.params.toList args.toList ds p := hA0
  rw [Tryd.params4] at hA hval
  obtain ⟨v0, vs0, d0, ds0, p0, q0, hargs, rfl, rfl, h0, r0⟩ := trodAll_cons hA
  obtain ⟨rfl, rfl, rfl⟩ := trodAll_nil r0
  obtain rfl : args = #[v0] := by cases args; simp_all
  have k0 := OkW.mk (hval 0 _ v0 rfl rfl)
  obtain ⟨s0, b0, x0, n0, u0, rfl, hs0, hx0, hz0, hn0⟩ := open_asked k0 h0
  refine Calls.mono (params_law s0 b0 x0 n0 u0 W hs0 hx0 hz0 (maxC hS) (tabs hL)) ?_
  rintro e W' ⟨v, rfl, rfl, hx⟩
  exact ⟨_, rfl, law_post laidOut (by kernel_rfl) (tb := 4) rfl (tb.ok _ _ rfl) rfl hW' rfl hx⟩
theorem reads_webParams (os : Os) {H : Type} (enc : TypeId × Value → H) : ∃ places, DataW.whole enc Tryd.prog ((laidWorld os).forCall (fun _ _ => 0) ⟨#[], #[.agg #[.string ⟨#[]⟩, .bool false, .slice none 0 0, .int .i64 0]], []⟩).memory Tryd.f4.params.toList Rows.webParamsSpec.vars false #[.agg #[.string ⟨#[]⟩, .bool false, .slice none 0 0, .int .i64 0]].toList 8 = some ([.agg [.lit (.string []), .lit (.bool false), .nil, .lit (.int .i64 0)]], [], places) :=
  ⟨[], by kernel_rfl⟩
set_option maxRecDepth 100000 in
theorem lifted_webParams (os : Os) (started : os.Started) (H : Type) (enc : TypeId × Value → H) (F : Stop.Interp) :
    ReturnsInHanded {} Tryd.checked os 4 .any ((OpenSpec.ofChange Rows.webParamsSpec).preRow enc Tryd.prog Tryd.f4 Rows.webParamsRow.domain false Rows.webParamsRow.laid) (((OpenSpec.ofChange Rows.webParamsSpec).at F).post enc Tryd.prog Tryd.f4 false true false false) := by
  obtain ⟨places, hx⟩ := reads_webParams os enc
  refine returnsInHanded_of_row (C := Tryd.checked) (s := OpenSpec.ofChange Rows.webParamsSpec) own started (by kernel_rfl) Tryd.func4
    (witness_row_atRef (enc := enc) (C := Tryd.checked) false (laidWorld os) #[.agg #[.string ⟨#[]⟩, .bool false, .slice none 0 0, .int .i64 0]] rfl (by kernel_rfl) (by kernel_rfl) (by kernel_rfl)
      (OpenSpec.preRow_of_cond 8 hx (by kernel_rfl) (fun k hk => by cases hk) (by kernel_rfl) (laid_met os _))) ?_
  intro W base args ds gs before hval hW _ _ hsz hL hS _
  exact contract_webParams H enc W base args ds gs before hval hW hsz hL hS
theorem said_webParams : Rows.WebParamsSaid :=
  OpenClaim.holds_of_cond 4 Tryd.f4 rfl rfl rfl rfl rfl rfl rfl ⟨rfl, rfl, rfl, rfl, rfl⟩ rfl rfl rfl rfl rfl (by kernel_rfl) Tryd.func4 (by kernel_rfl)
    (of_decide_eq_true (by kernel_rfl)) (by unfold Func.isWrapper; first | (rw [if_pos (by decide +kernel)]; kernel_rfl) | (rw [if_neg (by decide +kernel)]; exact ⟨rfl, rfl⟩))
    (fun os started H enc _ F => by rw [OpenClaim.pre_eq_preRow]; exact lifted_webParams os started H enc F)
theorem plain_webParams (f : FuncId) (fn : Func) (hf : Tryd.pinned.checked.prog.funcNamed "vigil/vigillaw17.WebParams" = some f) (hfn : Tryd.pinned.checked.prog.funcs[f]? = some fn) :
    false = Tryd.pinned.checked.prog.looks [] ∧ ∀ (j : Nat) t, fn.params[j]? = some t → Tryd.pinned.checked.prog.wantsStandIn t = false := by
  obtain rfl : f = 4 := Option.some.inj ((show Tryd.prog.funcNamed "vigil/vigillaw17.WebParams" = some 4 by kernel_rfl).symm.trans hf) |>.symm
  obtain rfl : fn = Tryd.f4 := (Option.some.inj (Tryd.func4.symm.trans hfn)).symm
  refine ⟨by kernel_rfl, fun j t ht => ?_⟩
  rw [Tryd.params4] at ht
  have hm : t ∈ #[34] := Array.mem_of_getElem? ht
  simp only [List.mem_toArray, List.mem_cons, List.not_mem_nil, or_false] at hm
  rcases hm with rfl
  · exact (show Tryd.prog.wantsStandIn 34 = false by kernel_rfl)
/-- WebParams: whatever text, names and stop, the law of parameters returns true and leaves what came in alone. -/
theorem WebParams_holds : Rows.WebParamsCardSaid :=
  Claim7.holds_tied_plain_at .later [] _ _ _ _ said_webParams (fun _ h => by cases h) (by kernel_rfl) (fun _ h => by cases h) webParams_row_tie rfl ⟨rfl, rfl⟩ (by kernel_rfl) rfl plain_webParams (by kernel_rfl)
end Go.Proofs.YtlaingmhdgpkdaaDoor
