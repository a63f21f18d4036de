/- RegexClass: whatever characters, range and texts, the law of classes returns true and leaves what came in alone. Conditions: none beyond the statement's own. -/
import Derived.Test.YtbpkhgehchelhaaDoorRCard
import Derived.Test.YtbpkhgehchelhaaDoorRXc
import Derived.Test.YtbpkhgehchelhaaDoorV29
open Go Go.Vg Go.RowKit Go.Proofs Go.Proofs.YtbpkhgehchelhaaDoor
namespace Go.Proofs.YtbpkhgehchelhaaDoor
set_option linter.unusedSimpArgs false
open Go.Lib Go.Shelf Go.ChangeShapes Go.WideShapes Go.ChangeAt
set_option maxRecDepth 100000 in
theorem open_clsd {H : Type} {enc : TypeId × Value → H} {w : World} {sp : Nat → Bool} {hd : Bool} {b : Nat} {v : Value} {d : DataW H} {p : List MemPlace}
    (hval : OkW Tryd.prog w b 50 v) (h : DataW.Trod enc Tryd.prog w 0 sp hd 50 v d p) : ∃ (cs : List Int) (n m : Int) (ns : List (List UInt8)) (c u : Value), v = .agg ⟨[c, .int .i32 n, .int .i32 m, u]⟩ ∧ Sli w c 1 (cs.map runC) ∧ Sli w u 1 (ns.map strC) ∧ (∀ n ∈ ns, n.length ≤ 9223372036854775807) := by
  obtain ⟨c0, c1, c2, c3, y0, y1, y2, y3, n, rfl, -, -, k0, k1, k2, k3⟩ := Go.Joins.open_agg4 (tb.ok _ _ rfl) (by kernel_rfl) (by kernel_rfl) hval.ok h
  obtain ⟨m, hm, hwm⟩ := open_int1 (tb.ok _ _ rfl) k1
  obtain ⟨q, hq, hwq⟩ := open_int1 (tb.ok _ _ rfl) k2
  cases hm; cases hq
  have hf0 : OkW Tryd.prog w b 48 c0 := field_ok (t := 50) (u := 48) (e := 21) (i := 0) (tb.ok 50 _ rfl) hval (ts := [48, 21, 21, 22]) (by kernel_rfl) rfl rfl (tb.ok 48 _ rfl)
  obtain ⟨cs, g1, g2⟩ := open_rows1 (t := 48) (e := 21) (k := 1) runC (fun _ => True) (tb.ok _ _ rfl) (by kernel_rfl) (fun n cs x hx => by
    obtain ⟨a, ha, hla⟩ := open_int1 (tb.ok _ _ rfl) hx
    exact ⟨a, ha, trivial⟩) hf0 k0
  have hf3 : OkW Tryd.prog w b 22 c3 := field_ok (t := 50) (u := 22) (e := 9) (i := 3) (tb.ok 50 _ rfl) hval (ts := [48, 21, 21, 22]) (by kernel_rfl) rfl rfl (tb.ok 22 _ rfl)
  obtain ⟨ls, h1, h2⟩ := open_rows1 (t := 22) (e := 9) (k := 1) strC (fun s => s.length ≤ 9223372036854775807) (tb.ok _ _ rfl) (by kernel_rfl) (fun n cs x hx => by
    obtain ⟨a, ha, hla⟩ := open_str (tb.ok _ _ rfl) hx
    exact ⟨a, ha, hla⟩) hf3 k3
  exact ⟨cs, m, q, ls, c0, c3, rfl, g1, h1, h2⟩
set_option maxRecDepth 100000 in
theorem contract_regexClass (H : Type) (enc : TypeId × Value → H) (W : World) (base : Nat) (args : Array Value) (ds gs : List (DataW H)) (before : List MemPlace)
    (hval : ∀ (j : Nat) t v, Tryd.f6.params[j]? = some t → args[j]? = some v → Value.okWide Tryd.prog W .any base t v)
    (hW : DataW.Whole enc Tryd.prog Tryd.f6.params.toList Rows.regexClassSpec.vars false W args.toList ds gs before) (hL : laidMetH Tryd.prog Rows.regexClassRow.laid W) :
    Calls Tryd.prog 6 args W fun e W' => ∃ v, e = .returned v ∧ Rows.regexClassSpec.post enc Tryd.prog Tryd.f6 false true false false W args v W' := by
  have hW' := hW
  obtain ⟨p, q, hA0, hV, rfl, hfz, hnd⟩ := hW
  have hA : DataW.TrodAll enc Tryd.prog W 0 (fun _ => true) true Tryd.f6.params.toList args.toList ds p := hA0
  rw [Tryd.params6] at hA hval
  obtain ⟨v0, vs0, d0, ds0, p0, q0, hargs, rfl, rfl, h0, r0⟩ := trodAll_cons hA
  obtain ⟨rfl, rfl, rfl⟩ := trodAll_nil r0
  obtain rfl : args = #[v0] := by cases args; simp_all
  have k0 := OkW.mk (hval 0 _ v0 rfl rfl)
  obtain ⟨c0, n0, m0, x0, u0, y0, rfl, hc0, hx0, hz0⟩ := open_clsd k0 h0
  refine Calls.mono (class_law c0 n0 m0 u0 y0 x0 W hc0 hx0 hz0 (tabs hL)) ?_
  rintro e W' ⟨v, rfl, rfl, hx⟩
  exact ⟨_, rfl, law_post laidOut (by kernel_rfl) (tb := 4) rfl (tb.ok _ _ rfl) rfl hW' rfl hx⟩
theorem reads_regexClass (os : Os) {H : Type} (enc : TypeId × Value → H) : ∃ places, DataW.whole enc Tryd.prog ((laidWorld os).forCall (fun _ _ => 0) ⟨#[], #[.agg #[.slice none 0 0, .int .i32 0, .int .i32 0, .slice none 0 0]], []⟩).memory Tryd.f6.params.toList Rows.regexClassSpec.vars false #[.agg #[.slice none 0 0, .int .i32 0, .int .i32 0, .slice none 0 0]].toList 8 = some ([.agg [.nil, .lit (.int .i32 0), .lit (.int .i32 0), .nil]], [], places) :=
  ⟨[], by kernel_rfl⟩
set_option maxRecDepth 100000 in
theorem lifted_regexClass (os : Os) (started : os.Started) (H : Type) (enc : TypeId × Value → H) (F : Stop.Interp) :
    ReturnsInHanded {} Tryd.checked os 6 .any ((OpenSpec.ofChange Rows.regexClassSpec).preRow enc Tryd.prog Tryd.f6 Rows.regexClassRow.domain false Rows.regexClassRow.laid) (((OpenSpec.ofChange Rows.regexClassSpec).at F).post enc Tryd.prog Tryd.f6 false true false false) := by
  obtain ⟨places, hx⟩ := reads_regexClass os enc
  refine returnsInHanded_of_row (C := Tryd.checked) (s := OpenSpec.ofChange Rows.regexClassSpec) own started (by kernel_rfl) Tryd.func6
    (witness_row_at (enc := enc) (C := Tryd.checked) false (laidWorld os) #[.agg #[.slice none 0 0, .int .i32 0, .int .i32 0, .slice none 0 0]] rfl (by kernel_rfl) (by kernel_rfl) (by kernel_rfl)
      (OpenSpec.preRow_of_cond 8 hx (by kernel_rfl) (fun k hk => by cases hk) (by kernel_rfl) (laid_met os _))) ?_
  intro W base args ds gs before hval hW _ _ _ hL _ _
  exact contract_regexClass H enc W base args ds gs before hval hW hL
theorem said_regexClass : Rows.RegexClassSaid :=
  OpenClaim.holds_of_cond 6 Tryd.f6 rfl rfl rfl rfl rfl rfl rfl ⟨rfl, rfl, rfl, rfl, rfl⟩ rfl rfl rfl rfl rfl (by kernel_rfl) Tryd.func6 (by kernel_rfl)
    (of_decide_eq_true (by kernel_rfl)) (by unfold Func.isWrapper; first | (rw [if_pos (by decide +kernel)]; kernel_rfl) | (rw [if_neg (by decide +kernel)]; exact ⟨rfl, rfl⟩))
    (fun os started H enc _ F => by rw [OpenClaim.pre_eq_preRow]; exact lifted_regexClass os started H enc F)
theorem plain_regexClass (f : FuncId) (fn : Func) (hf : Tryd.pinned.checked.prog.funcNamed "vigil/vigillaw04.RegexClass" = some f) (hfn : Tryd.pinned.checked.prog.funcs[f]? = some fn) :
    true = Tryd.pinned.checked.prog.looks [] ∧ ∀ (j : Nat) t, fn.params[j]? = some t → Tryd.pinned.checked.prog.wantsStandIn t = false := by
  obtain rfl : f = 6 := Option.some.inj ((show Tryd.prog.funcNamed "vigil/vigillaw04.RegexClass" = some 6 by kernel_rfl).symm.trans hf) |>.symm
  obtain rfl : fn = Tryd.f6 := (Option.some.inj (Tryd.func6.symm.trans hfn)).symm
  refine ⟨by kernel_rfl, fun j t ht => ?_⟩
  rw [Tryd.params6] at ht
  have hm : t ∈ #[50] := Array.mem_of_getElem? ht
  simp only [List.mem_toArray, List.mem_cons, List.not_mem_nil, or_false] at hm
  rcases hm with rfl
  · exact (show Tryd.prog.wantsStandIn 50 = false by kernel_rfl)
/-- RegexClass: whatever characters, range and texts, the law of classes returns true and leaves what came in alone. -/
theorem RegexClass_holds : Rows.RegexClassCardSaid :=
  Claim7.holds_tied_plain_at .later [] _ _ _ _ said_regexClass (fun _ h => by cases h) (by kernel_rfl) (fun _ h => by cases h) regexClass_row_tie rfl ⟨rfl, rfl⟩ (by kernel_rfl) rfl plain_regexClass (by kernel_rfl)
end Go.Proofs.YtbpkhgehchelhaaDoor
