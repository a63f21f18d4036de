/- FuncsDates: whatever names, words and seconds, the law of dates returns true and leaves what came in alone. Conditions: none beyond the statement's own. -/
import Derived.Test.YtbnckhfkkoncbaaFCard
import Derived.Test.YtbnckhfkkoncbaaFX
open Go Go.Vg Go.RowKit Go.Proofs Go.Proofs.Ytbnckhfkkoncbaa
namespace Go.Proofs.Ytbnckhfkkoncbaa
set_option linter.unusedSimpArgs false
open Go.Lib Go.Shelf Go.ChangeShapes Go.WideShapes Go.ChangeAt

set_option maxRecDepth 100000 in
/-- texts that came in -/
theorem open_strs {H : Type} {enc : TypeId × Value → H} {w : World} {sp : Nat → Bool} {hd : Bool} {b : Nat} {v : Value} {d : DataW H} {p : List MemPlace}
    (hval : OkW Try.prog w b 39 v) (h : DataW.Trod enc Try.prog w 0 sp hd 39 v d p) : ∃ ls : List (List UInt8), Strs w v ls ∧ ∀ x ∈ ls, x.length ≤ 9223372036854775807 := by
  refine open_rows (t := 39) (e := 9) strC (fun x => x.length ≤ 9223372036854775807) (tb.ok _ _ rfl) (by kernel_rfl) (fun n cs x hx => ?_) hval h
  obtain ⟨a, ha, hla⟩ := open_str (tb.ok _ _ rfl) hx
  exact ⟨a, ha, hla⟩
set_option maxRecDepth 100000 in
/-- words that came in -/
theorem open_words {H : Type} {enc : TypeId × Value → H} {w : World} {sp : Nat → Bool} {hd : Bool} {b : Nat} {v : Value} {d : DataW H} {p : List MemPlace}
    (hval : OkW Try.prog w b 53 v) (h : DataW.Trod enc Try.prog w 0 sp hd 53 v d p) : ∃ ls : List Nat, Sli w v 1 (ls.map uC) ∧ ∀ x ∈ ls, True := by
  refine open_rows (t := 53) (e := 69) uC (fun _ => True) (tb.ok _ _ rfl) (by kernel_rfl) (fun n cs x hx => ?_) hval h
  obtain ⟨m, rfl, hm⟩ := open_int1 (tb.ok _ _ rfl) hx
  have h0 : 0 ≤ m := by
    have h1 : IntKind.u64.min = 0 := by decide
    simp only [Lit.wf, Bool.and_eq_true, decide_eq_true_eq, h1] at hm
    omega
  refine ⟨m.toNat, ?_, trivial⟩
  have e : ((m.toNat : Nat) : Int) = m := by omega
  simp only [uC, e]
set_option maxRecDepth 100000 in
/-- whole numbers that came in -/
theorem open_nums {H : Type} {enc : TypeId × Value → H} {w : World} {sp : Nat → Bool} {hd : Bool} {b : Nat} {v : Value} {d : DataW H} {p : List MemPlace}
    (hval : OkW Try.prog w b 32 v) (h : DataW.Trod enc Try.prog w 0 sp hd 32 v d p) : ∃ ls : List Int, Sli w v 1 (ls.map iC) ∧ ∀ x ∈ ls, True := by
  refine open_rows (t := 32) (e := 3) iC (fun _ => True) (tb.ok _ _ rfl) (by kernel_rfl) (fun n cs x hx => ?_) hval h
  obtain ⟨m, rfl, hm⟩ := open_int1 (tb.ok _ _ rfl) hx
  exact ⟨m, rfl, trivial⟩
set_option maxRecDepth 100000 in
theorem contract_funcsDates (H : Type) (enc : TypeId × Value → H) (W : World) (base : Nat) (args : Array Value) (ds gs : List (DataW H)) (before : List MemPlace)
    (hval : ∀ (j : Nat) t v, Try.f7.params[j]? = some t → args[j]? = some v → Value.okWide Try.prog W .any base t v)
    (hW : DataW.Whole enc Try.prog Try.f7.params.toList Rows.funcsDatesSpec.vars false W args.toList ds gs before) (hL : laidMetH Try.prog Rows.funcsDatesRow.laid W) :
    Calls Try.prog 7 args W fun e W' => ∃ v, e = .returned v ∧ Rows.funcsDatesSpec.post enc Try.prog Try.f7 false true false false W args v W' := by
  have hW' := hW
  obtain ⟨p, q, hA0, hV, rfl, hfz, hnd⟩ := hW
  have hA : DataW.TrodAll enc Try.prog W 0 (fun _ => true) true Try.f7.params.toList args.toList ds p := hA0
  rw [Try.params7] at hA hval
  obtain ⟨v0, vs0, d0, ds0, p0, q0, hargs, rfl, rfl, h0, r0⟩ := trodAll_cons hA
  obtain ⟨v1, vs1, d1, ds1, p1, q1, hargs1, rfl, rfl, h1, r1⟩ := trodAll_cons r0
  obtain ⟨v2, vs2, d2, ds2, p2, q2, hargs2, rfl, rfl, h2, r2⟩ := trodAll_cons r1
  obtain ⟨rfl, rfl, rfl⟩ := trodAll_nil r2
  obtain rfl : args = #[v0, v1, v2] := by cases args; simp_all
  have k0 := OkW.mk (hval 0 _ v0 rfl rfl)
  have k1 := OkW.mk (hval 1 _ v1 rfl rfl)
  have k2 := OkW.mk (hval 2 _ v2 rfl rfl)
  obtain ⟨x0, hx0, hz0⟩ := open_strs k0 h0
  obtain ⟨x1, hx1, hz1⟩ := open_words k1 h1
  obtain ⟨x2, hx2, hz2⟩ := open_nums k2 h2
  refine Calls.mono (dates_law v0 v1 v2 x0 x1 x2 W hx0 hx1 hx2) ?_
  rintro e W' ⟨v, rfl, rfl, hx⟩
  exact ⟨_, rfl, law_post laidOut (by kernel_rfl) (tb := 4) rfl (tb.ok _ _ rfl) rfl hW' rfl hx⟩
theorem reads_funcsDates (os : Os) {H : Type} (enc : TypeId × Value → H) : ∃ places, DataW.whole enc Try.prog ((laidWorld os).forCall (fun _ _ => 0) ⟨#[], #[.slice none 0 0, .slice none 0 0, .slice none 0 0], []⟩).memory Try.f7.params.toList Rows.funcsDatesSpec.vars false #[.slice none 0 0, .slice none 0 0, .slice none 0 0].toList 8 = some ([.nil, .nil, .nil], [], places) :=
  ⟨[], by kernel_rfl⟩
set_option maxRecDepth 100000 in
theorem lifted_funcsDates (os : Os) (started : os.Started) (H : Type) (enc : TypeId × Value → H) (F : Stop.Interp) :
    ReturnsInHanded {} Try.checked os 7 .any ((OpenSpec.ofChange Rows.funcsDatesSpec).preRow enc Try.prog Try.f7 Rows.funcsDatesRow.domain false Rows.funcsDatesRow.laid) (((OpenSpec.ofChange Rows.funcsDatesSpec).at F).post enc Try.prog Try.f7 false true false false) := by
  obtain ⟨places, hx⟩ := reads_funcsDates os enc
  refine returnsInHanded_of_row (C := Try.checked) (s := OpenSpec.ofChange Rows.funcsDatesSpec) own started (by kernel_rfl) Try.func7
    (witness_row_at (enc := enc) (C := Try.checked) false (laidWorld os) #[.slice none 0 0, .slice none 0 0, .slice none 0 0] rfl (by kernel_rfl) (by kernel_rfl) (by kernel_rfl)
      (OpenSpec.preRow_of_cond 8 hx (by kernel_rfl) (fun k hk => by cases hk) (by kernel_rfl) (laid_met os _))) ?_
  intro W base args ds gs before hval hW _ _ _ hL _ _
  exact contract_funcsDates H enc W base args ds gs before hval hW hL
theorem said_funcsDates : Rows.FuncsDatesSaid :=
  OpenClaim.holds_of_cond 7 Try.f7 rfl rfl rfl rfl rfl rfl rfl ⟨rfl, rfl, rfl, rfl, rfl⟩ rfl rfl rfl rfl rfl (by kernel_rfl) Try.func7 (by kernel_rfl)
    (of_decide_eq_true (by kernel_rfl)) (by unfold Func.isWrapper; first | (rw [if_pos (by decide +kernel)]; kernel_rfl) | (rw [if_neg (by decide +kernel)]; exact ⟨rfl, rfl⟩))
    (fun os started H enc _ F => by rw [OpenClaim.pre_eq_preRow]; exact lifted_funcsDates os started H enc F)
/-- FuncsDates: whatever names, words and seconds, the law of dates returns true and leaves what came in alone. -/
theorem FuncsDates_holds : Rows.FuncsDatesSaid := said_funcsDates
end Go.Proofs.Ytbnckhfkkoncbaa
