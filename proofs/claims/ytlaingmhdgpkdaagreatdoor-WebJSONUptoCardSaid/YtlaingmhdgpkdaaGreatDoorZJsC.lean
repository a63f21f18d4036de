/- WebJSON, up to its bulk: whatever labels, texts and status, the law of JSON returns true and leaves what came in alone. Conditions: none beyond the statement's own. -/
import Derived.Test.YtlaingmhdgpkdaaGreatDoorZCard
import Derived.Test.YtlaingmhdgpkdaaGreatDoorZJs
import Derived.Test.YtlaingmhdgpkdaaGreatDoorV32
open Go Go.Vg Go.RowKit Go.Proofs Go.Proofs.YtlaingmhdgpkdaaGreatDoor
namespace Go.Proofs.YtlaingmhdgpkdaaGreatDoor
set_option linter.unusedSimpArgs false
open Go.Lib Go.Shelf Go.ChangeShapes Go.WideShapes Go.ChangeAt


theorem bulk_mem {H : Type} {d : DataW H} : ∀ {es : List (DataW H)}, d ∈ es → Rows.uptoBulk d ≤ Rows.uptoBulkAll es
  | [], h => by cases h
  | e :: es, h => by
    rw [Rows.uptoBulkAll]
    rcases List.mem_cons.1 h with rfl | h
    · omega
    · have := bulk_mem h; omega
theorem bulk_slice {H : Type} {d : DataW H} {es sp : List (DataW H)} (h : d ∈ es) : Rows.uptoBulk d ≤ Rows.uptoBulk (.slice es sp) := by
  have := bulk_mem h
  rw [Rows.uptoBulk]; omega
set_option maxRecDepth 100000 in
/-- labels that came in, none longer than what the reading holds -/
theorem open_labsB {H : Type} {enc : TypeId × Value → H} {w : World} {sp : Nat → Bool} {hd : Bool} {b : Nat} {v : Value} {d : DataW H} {p : List MemPlace}
    (hval : OkW Tryz.prog w b 27 v) (h : DataW.Trod enc Tryz.prog w 0 sp hd 27 v d p) : ∃ ls : List Lab, Labs w v ls ∧ ∀ x ∈ ls, x.1.length ≤ Rows.uptoBulk d ∧ x.2.length ≤ Rows.uptoBulk d := by
  obtain ⟨ls, h1, h2⟩ := open_sliD (t := 27) (e := 64) labC (fun (a : Lab) d2 => d2 = .agg [.lit (.string a.1), .lit (.string a.2)]) (tb.ok _ _ rfl) (by kernel_rfl) (fun n cs x hx => by
    obtain ⟨y0, y1, m, hx1, hl, k0, k1⟩ := trod_struct2 (tb.ok 64 _ rfl) hx
    have hc : Tryz.prog.cellsOf 64 = 2 := by kernel_rfl
    rw [hc] at hl
    match cs, hl with
    | [u0, u1], _ =>
      obtain ⟨s0, e0, f0, -⟩ := DataW.trod_string (t := 9) (tb.ok _ _ rfl) k0
      obtain ⟨s1, e1, f1, -⟩ := DataW.trod_string (t := 9) (tb.ok _ _ rfl) k1
      have g0 : u0 = .string s0 := by
        have hc1 : Tryz.prog.cellsOf 9 = 1 := by kernel_rfl
        have := e0
        rw [hc1] at this
        simpa using this
      have g1 : u1 = .string s1 := by
        have hc1 : Tryz.prog.cellsOf 9 = 1 := by kernel_rfl
        have := e1
        rw [hc1] at this
        simpa using this
      subst g0 g1
      exact ⟨(s0.data.toList, s1.data.toList), rfl, by rw [hx1, f0, f1]⟩) hval.ok h
  refine ⟨ls, h1, fun x hx => ?_⟩
  obtain ⟨es, sp2, d2, rfl, hm, rfl⟩ := h2 x hx
  have := bulk_slice (sp := sp2) hm
  have e : Rows.uptoBulk (H := H) (.agg [.lit (.string x.1), .lit (.string x.2)]) = (x.1.length + 1) + ((x.2.length + 1) + 0) + 1 := by
    simp only [Rows.uptoBulk, Rows.uptoBulkAll]
  omega
set_option maxRecDepth 100000 in
/-- texts that came in -/
theorem open_strsB {H : Type} {enc : TypeId × Value → H} {w : World} {sp : Nat → Bool} {hd : Bool} {b : Nat} {v : Value} {d : DataW H} {p : List MemPlace}
    (hval : OkW Tryz.prog w b 28 v) (h : DataW.Trod enc Tryz.prog w 0 sp hd 28 v d p) : ∃ ts : List (List UInt8), Strs w v ts ∧ ∀ x ∈ ts, x.length ≤ Rows.uptoBulk d := by
  obtain ⟨ls, h1, h2⟩ := open_sliD (t := 28) (e := 9) strC (fun (a : List UInt8) d2 => d2 = .lit (.string a)) (tb.ok _ _ rfl) (by kernel_rfl) (fun n cs x hx => by
    obtain ⟨s0, rfl, f0, -⟩ := DataW.trod_string (t := 9) (tb.ok _ _ rfl) hx
    exact ⟨s0.data.toList, rfl, by rw [f0]⟩) hval.ok h
  refine ⟨ls, h1, fun x hx => ?_⟩
  obtain ⟨es, sp2, d2, rfl, hm, rfl⟩ := h2 x hx
  have := bulk_slice (sp := sp2) hm
  have e : Rows.uptoBulk (H := H) (.lit (.string x)) = x.length + 1 := by simp only [Rows.uptoBulk]
  omega
set_option maxRecDepth 100000 in
theorem contract_webJSON (H : Type) (enc : TypeId × Value → H) (W : World) (base : Nat) (args : Array Value) (ds gs : List (DataW H)) (before : List MemPlace)
    (hval : ∀ (j : Nat) t v, Tryz.f4.params[j]? = some t → args[j]? = some v → Value.okWide Tryz.prog W .any base t v)
    (hW : DataW.Whole enc Tryz.prog Tryz.f4.params.toList Rows.webJSONSpec.vars false W args.toList ds gs before) (hcond : Rows.uptoBulkAll (ds ++ gs) ≤ 1048576) (hL : laidMetH Tryz.prog Rows.webJSONRow.laid W) (hS : W.ShapedOpen Tryz.prog) :
    Calls Tryz.prog 4 args W fun e W' => ∃ v, e = .returned v ∧ Rows.webJSONSpec.post enc Tryz.prog Tryz.f4 false true false false W args v W' := by
  have hW' := hW
  obtain ⟨p, q, hA0, hV, rfl, hfz, hnd⟩ := hW
  have hA : DataW.TrodAll enc Tryz.prog W 0 (fun _ => true) true Tryz.f4.params.toList args.toList ds p := hA0
  rw [Tryz.params4] at hA hval
  obtain ⟨v0, vs0, d0, ds0, p0, q0, hargs, rfl, rfl, h0, r0⟩ := trodAll_cons hA
  obtain ⟨v1, vs1, d1, ds1, p1, q1, rfl, rfl, rfl, h1, r1⟩ := trodAll_cons r0
  obtain ⟨v2, vs2, d2, ds2, p2, q2, rfl, rfl, rfl, h2, r2⟩ := trodAll_cons r1
  obtain ⟨rfl, rfl, rfl⟩ := trodAll_nil r2
  obtain rfl : args = #[v0, v1, v2] := by cases args; simp_all
  have k0 := OkW.mk (hval 0 _ v0 rfl rfl)
  have k1 := OkW.mk (hval 1 _ v1 rfl rfl)
  have k2 := OkW.mk (hval 2 _ v2 rfl rfl)
  obtain ⟨x0, hx0, hz0⟩ := open_labsB k0 h0
  obtain ⟨x1, hx1, hz1⟩ := open_strsB k1 h1
  obtain ⟨n2, rfl, hn2⟩ := openI (tb.ok _ _ rfl) k2 h2
  have hb0 : Rows.uptoBulk d0 ≤ 1048576 := Nat.le_trans (bulk_mem (by simp)) hcond
  have hb1 : Rows.uptoBulk d1 ≤ 1048576 := Nat.le_trans (bulk_mem (by simp)) hcond
  have hz0 : ∀ x ∈ x0, x.1.length ≤ 2000000 ∧ x.2.length ≤ 2000000 := fun x h => by have := hz0 x h; omega
  have hz1 : ∀ x ∈ x1, x.length ≤ 2000000 := fun x h => by have := hz1 x h; omega
  refine Calls.mono (json_law v0 v1 x0 x1 n2 W hx0 hx1 hz0 hz1 (wf_i64 hn2).1 (wf_i64 hn2).2 (maxC hS) (tabs hL)) ?_
  rintro e W' ⟨v, rfl, rfl, hx⟩
  exact ⟨_, rfl, law_post laidOut (by kernel_rfl) (tb := 4) rfl (tb.ok _ _ rfl) rfl hW' rfl hx⟩
theorem reads_webJSON (os : Os) {H : Type} (enc : TypeId × Value → H) : ∃ places, DataW.whole enc Tryz.prog ((laidWorld os).forCall (fun _ _ => 0) ⟨#[], #[.slice none 0 0, .slice none 0 0, .int .i64 0], []⟩).memory Tryz.f4.params.toList Rows.webJSONSpec.vars false #[.slice none 0 0, .slice none 0 0, .int .i64 0].toList 8 = some ([.nil, .nil, .lit (.int .i64 0)], [], places) :=
  ⟨[], by kernel_rfl⟩
set_option maxRecDepth 100000 in
theorem lifted_webJSON (os : Os) (started : os.Started) (H : Type) (enc : TypeId × Value → H) (F : Stop.Interp) :
    ReturnsInHanded {} Tryz.checked os 4 .any ((Rows.OpenSpec.upto Rows.webJSONSpec).preRow enc Tryz.prog Tryz.f4 Rows.webJSONUptoRow.domain false Rows.webJSONUptoRow.laid) (((Rows.OpenSpec.upto Rows.webJSONSpec).at F).post enc Tryz.prog Tryz.f4 false true false false) := by
  obtain ⟨places, hx⟩ := reads_webJSON os enc
  refine returnsInHanded_of_row (C := Tryz.checked) (s := Rows.OpenSpec.upto Rows.webJSONSpec) own started (by kernel_rfl) Tryz.func4
    (witness_row_atRef (enc := enc) (C := Tryz.checked) false (laidWorld os) #[.slice none 0 0, .slice none 0 0, .int .i64 0] rfl (by kernel_rfl) (by kernel_rfl) (by kernel_rfl)
      (OpenSpec.preRow_of_cond 8 hx (by kernel_rfl) (fun k hk => by cases hk; kernel_rfl) (by kernel_rfl) (laid_met os _))) ?_
  intro W base args ds gs before hval hW _ hk _ hL hS _
  exact contract_webJSON H enc W base args ds gs before hval hW (of_decide_eq_true (hk _ rfl)) hL hS
theorem said_webJSON : Rows.WebJSONUptoSaid :=
  OpenClaim.holds_of_cond 4 Tryz.f4 rfl rfl rfl rfl rfl rfl rfl ⟨rfl, rfl, rfl, rfl, rfl⟩ rfl rfl rfl rfl rfl (by kernel_rfl) Tryz.func4 (by kernel_rfl)
    (of_decide_eq_true (by kernel_rfl)) (by unfold Func.isWrapper; first | (rw [if_pos (by decide +kernel)]; kernel_rfl) | (rw [if_neg (by decide +kernel)]; exact ⟨rfl, rfl⟩))
    (fun os started H enc _ F => by rw [OpenClaim.pre_eq_preRow]; exact lifted_webJSON os started H enc F)
theorem plain_webJSON (f : FuncId) (fn : Func) (hf : Tryz.pinned.checked.prog.funcNamed "vigil/vigillaw17.WebJSON" = some f) (hfn : Tryz.pinned.checked.prog.funcs[f]? = some fn) :
    false = Tryz.pinned.checked.prog.looks [] ∧ ∀ (j : Nat) t, fn.params[j]? = some t → Tryz.pinned.checked.prog.wantsStandIn t = false := by
  obtain rfl : f = 4 := Option.some.inj ((show Tryz.prog.funcNamed "vigil/vigillaw17.WebJSON" = some 4 by kernel_rfl).symm.trans hf) |>.symm
  obtain rfl : fn = Tryz.f4 := (Option.some.inj (Tryz.func4.symm.trans hfn)).symm
  refine ⟨by kernel_rfl, fun j t ht => ?_⟩
  rw [Tryz.params4] at ht
  have hm : t ∈ #[27, 28, 3] := Array.mem_of_getElem? ht
  simp only [List.mem_toArray, List.mem_cons, List.not_mem_nil, or_false] at hm
  rcases hm with rfl | rfl | rfl
  · exact (show Tryz.prog.wantsStandIn 27 = false by kernel_rfl)
  · exact (show Tryz.prog.wantsStandIn 28 = false by kernel_rfl)
  · exact (show Tryz.prog.wantsStandIn 3 = false by kernel_rfl)
/-- WebJSON, up to its bulk: whatever labels, texts and status, the law of JSON returns true and leaves what came in alone. -/
theorem WebJSON_holds : Rows.WebJSONUptoCardSaid :=
  Claim7.holds_tied_plain_at .later [] _ _ _ _ said_webJSON (fun _ h => by cases h) (by kernel_rfl) (fun _ h => by cases h) webJSONUpto_row_tie rfl ⟨rfl, rfl⟩ (by kernel_rfl) rfl plain_webJSON (by kernel_rfl)
end Go.Proofs.YtlaingmhdgpkdaaGreatDoor
