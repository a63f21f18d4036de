/- FuncsKnown: whatever further names, the law of the known functions returns true and leaves what came in alone. Conditions: none beyond the statement's own. -/
import Derived.Test.YtbnckhfkkoncbaaFCard
import Derived.Test.YtbnckhfkkoncbaaFM
open Go Go.Vg Go.RowKit Go.Proofs Go.Proofs.Ytbnckhfkkoncbaa
namespace Go.Proofs.Ytbnckhfkkoncbaa
set_option linter.unusedSimpArgs false
open Go.Lib Go.Shelf Go.ChangeShapes Go.WideShapes Go.ChangeAt

set_option maxRecDepth 100000 in
/-- texts that came in -/
theorem open_strs {H : Type} {enc : TypeId × Value → H} {w : World} {sp : Nat → Bool} {hd : Bool} {b : Nat} {v : Value} {d : DataW H} {p : List MemPlace}
    (hval : OkW Try.prog w b 39 v) (h : DataW.Trod enc Try.prog w 0 sp hd 39 v d p) : ∃ ls : List (List UInt8), Strs w v ls ∧ ∀ x ∈ ls, x.length ≤ 9223372036854775807 := by
  refine open_rows (t := 39) (e := 9) strC (fun x => x.length ≤ 9223372036854775807) (tb.ok _ _ rfl) (by kernel_rfl) (fun n cs x hx => ?_) hval h
  obtain ⟨a, ha, hla⟩ := open_str (tb.ok _ _ rfl) hx
  exact ⟨a, ha, hla⟩
set_option maxRecDepth 100000 in
theorem contract_funcsKnown (H : Type) (enc : TypeId × Value → H) (W : World) (base : Nat) (args : Array Value) (ds gs : List (DataW H)) (before : List MemPlace)
    (hval : ∀ (j : Nat) t v, Try.f6.params[j]? = some t → args[j]? = some v → Value.okWide Try.prog W .any base t v)
    (hW : DataW.Whole enc Try.prog Try.f6.params.toList Rows.funcsKnownSpec.vars false W args.toList ds gs before) (hL : laidMetH Try.prog Rows.funcsKnownRow.laid W) :
    Calls Try.prog 6 args W fun e W' => ∃ v, e = .returned v ∧ Rows.funcsKnownSpec.post enc Try.prog Try.f6 false true false false W args v W' := by
  have hW' := hW
  obtain ⟨p, q, hA0, hV, rfl, hfz, hnd⟩ := hW
  have hA : DataW.TrodAll enc Try.prog W 0 (fun _ => true) true Try.f6.params.toList args.toList ds p := hA0
  rw [Try.params6] at hA hval
  obtain ⟨v0, vs0, d0, ds0, p0, q0, hargs, rfl, rfl, h0, r0⟩ := trodAll_cons hA
  obtain ⟨rfl, rfl, rfl⟩ := trodAll_nil r0
  obtain rfl : args = #[v0] := by cases args; simp_all
  have k0 := OkW.mk (hval 0 _ v0 rfl rfl)
  obtain ⟨x0, hx0, hz0⟩ := open_strs k0 h0
  refine Calls.mono (known_law v0 x0 W hx0) ?_
  rintro e W' ⟨v, rfl, rfl, hx⟩
  exact ⟨_, rfl, law_post laidOut (by kernel_rfl) (tb := 4) rfl (tb.ok _ _ rfl) rfl hW' rfl hx⟩
theorem reads_funcsKnown (os : Os) {H : Type} (enc : TypeId × Value → H) : ∃ places, DataW.whole enc Try.prog ((laidWorld os).forCall (fun _ _ => 0) ⟨#[], #[.slice none 0 0], []⟩).memory Try.f6.params.toList Rows.funcsKnownSpec.vars false #[.slice none 0 0].toList 8 = some ([.nil], [], places) :=
  ⟨[], by kernel_rfl⟩
set_option maxRecDepth 100000 in
theorem lifted_funcsKnown (os : Os) (started : os.Started) (H : Type) (enc : TypeId × Value → H) (F : Stop.Interp) :
    ReturnsInHanded {} Try.checked os 6 .any ((OpenSpec.ofChange Rows.funcsKnownSpec).preRow enc Try.prog Try.f6 Rows.funcsKnownRow.domain false Rows.funcsKnownRow.laid) (((OpenSpec.ofChange Rows.funcsKnownSpec).at F).post enc Try.prog Try.f6 false true false false) := by
  obtain ⟨places, hx⟩ := reads_funcsKnown os enc
  refine returnsInHanded_of_row (C := Try.checked) (s := OpenSpec.ofChange Rows.funcsKnownSpec) own started (by kernel_rfl) Try.func6
    (witness_row_at (enc := enc) (C := Try.checked) false (laidWorld os) #[.slice none 0 0] rfl (by kernel_rfl) (by kernel_rfl) (by kernel_rfl)
      (OpenSpec.preRow_of_cond 8 hx (by kernel_rfl) (fun k hk => by cases hk) (by kernel_rfl) (laid_met os _))) ?_
  intro W base args ds gs before hval hW _ _ _ hL _ _
  exact contract_funcsKnown H enc W base args ds gs before hval hW hL
theorem said_funcsKnown : Rows.FuncsKnownSaid :=
  OpenClaim.holds_of_cond 6 Try.f6 rfl rfl rfl rfl rfl rfl rfl ⟨rfl, rfl, rfl, rfl, rfl⟩ rfl rfl rfl rfl rfl (by kernel_rfl) Try.func6 (by kernel_rfl)
    (of_decide_eq_true (by kernel_rfl)) (by unfold Func.isWrapper; first | (rw [if_pos (by decide +kernel)]; kernel_rfl) | (rw [if_neg (by decide +kernel)]; exact ⟨rfl, rfl⟩))
    (fun os started H enc _ F => by rw [OpenClaim.pre_eq_preRow]; exact lifted_funcsKnown os started H enc F)
/-- FuncsKnown: whatever further names, the law of the known functions returns true and leaves what came in alone. -/
theorem FuncsKnown_holds : Rows.FuncsKnownSaid := said_funcsKnown
end Go.Proofs.Ytbnckhfkkoncbaa
