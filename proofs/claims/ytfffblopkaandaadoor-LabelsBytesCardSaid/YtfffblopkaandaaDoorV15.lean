/- A law's end: what is read behind the call, and the arguments' texts and structs opened. -/
import Derived.Test.YtfffblopkaandaaDoorV14
import Derived.ProofKit
import Derived.Carry
import Derived.Deep.DeepHandedRow
import Derived.OpenShut
namespace Go.Vg
open Go.RowKit Go.WideShapes Go.ChangeShapes

/-- a value fits its type; kept folded -/
structure OkW (P : Program) (w : World) (b t : Nat) (v : Value) : Prop where
  ok : Value.okWide P w .any b t v
theorem open_rows {H : Type} {enc : TypeId × Value → H} {P : Program} {w : World} {sp : Nat → Bool} {hd : Bool} {t e k b0 : Nat} {α : Type} {v : Value} {d : DataW H} {p : List MemPlace} (dec : α → List Value) (Q : α → Prop)
    (ht : P.underlying t = some (.slice e)) (hc : P.cellsOf e = k) (hel : ∀ n cs x, DataW.trod enc P w 0 sp hd n e cs = some x → ∃ a, cs = dec a ∧ Q a)
    (hval : OkW P w b0 t v) (h : DataW.Trod enc P w 0 sp hd t v d p) : ∃ ls : List α, Sli w v k (ls.map dec) ∧ ∀ a ∈ ls, Q a := open_sli dec Q ht hc hel hval.ok h
theorem openI {H : Type} {enc : TypeId × Value → H} {P : Program} {w : World} {b : Nat} {sp : Nat → Bool} {hd : Bool} {t : Nat} {k : IntKind} {v : Value} {d : DataW H} {p : List MemPlace}
    (ht : P.underlying t = some (.int k)) (hval : OkW P w b t v) (h : DataW.Trod enc P w 0 sp hd t v d p) : ∃ n : Int, v = .int k n ∧ (Lit.int k n).wf = true := by
  obtain ⟨n, h1, _, _, h2⟩ := open_int ht hval.ok h; exact ⟨n, h1, h2⟩
theorem openB {H : Type} {enc : TypeId × Value → H} {P : Program} {w : World} {b : Nat} {sp : Nat → Bool} {hd : Bool} {t : Nat} {v : Value} {d : DataW H} {p : List MemPlace}
    (ht : P.underlying t = some .bool) (hval : OkW P w b t v) (h : DataW.Trod enc P w 0 sp hd t v d p) : ∃ x : Bool, v = .bool x := by
  obtain ⟨n, h1, _, _⟩ := open_bool ht hval.ok h; exact ⟨n, h1⟩
theorem openS {H : Type} {enc : TypeId × Value → H} {P : Program} {w : World} {b : Nat} {sp : Nat → Bool} {hd : Bool} {t : Nat} {v : Value} {d : DataW H} {p : List MemPlace}
    (ht : P.underlying t = some .string) (hval : OkW P w b t v) (h : DataW.Trod enc P w 0 sp hd t v d p) : ∃ s : List UInt8, v = S s ∧ s.length ≤ 9223372036854775807 := by
  obtain ⟨s, rfl, _, _, h2⟩ := Go.ChangeMaps.open_string ht hval.ok h; exact ⟨s.data.toList, rfl, h2⟩
theorem wf_i64 {n : Int} (h : (Lit.int .i64 n).wf = true) : -9223372036854775808 ≤ n ∧ n ≤ 9223372036854775807 := by
  have e1 : IntKind.i64.min = -9223372036854775808 := by decide
  have e2 : IntKind.i64.max = 9223372036854775807 := by decide
  simp only [Lit.wf, Bool.and_eq_true, decide_eq_true_eq, e1, e2] at h
  exact h
theorem wf_u8 {n : Int} (h : (Lit.int .u8 n).wf = true) : 0 ≤ n ∧ n < 256 := by
  have e1 : IntKind.u8.min = 0 := by decide
  have e2 : IntKind.u8.max = 255 := by decide
  simp only [Lit.wf, Bool.and_eq_true, decide_eq_true_eq, e1, e2] at h
  omega
theorem open_str {H : Type} {enc : TypeId × Value → H} {P : Program} {w : World} {b : Nat} {sp : Nat → Bool} {hd : Bool} {t n : Nat} {cs : List Value} {x : DataW H × List MemPlace}
    (ht : P.underlying t = some .string) (h : DataW.trod enc P w b sp hd n t cs = some x) : ∃ s : List UInt8, cs = [S s] ∧ s.length ≤ 9223372036854775807 := by
  obtain ⟨s, rfl, _, hl⟩ := DataW.trod_string ht h
  exact ⟨s.data.toList, rfl, hl⟩
theorem open_int1 {H : Type} {enc : TypeId × Value → H} {P : Program} {w : World} {b : Nat} {sp : Nat → Bool} {hd : Bool} {t n : Nat} {k : IntKind} {cs : List Value} {x : DataW H × List MemPlace}
    (ht : P.underlying t = some (.int k)) (h : DataW.trod enc P w b sp hd n t cs = some x) : ∃ m : Int, cs = [.int k m] ∧ (Lit.int k m).wf = true := by
  obtain ⟨m, rfl, _, hl⟩ := DataW.trod_int ht h
  exact ⟨m, rfl, hl⟩
theorem open_st2 {H : Type} {enc : TypeId × Value → H} {P : Program} {w : World} {b : Nat} {sp : Nat → Bool} {hd : Bool} {t n : Nat} {f0 f1 : Field} {cs : List Value} {x : DataW H × List MemPlace}
    (ht : P.underlying t = some (.struct #[f0, f1])) (hc : P.cellsOf t = 2) (h0 : f0.offset = 0) (h1 : f1.offset = 1) (c0 : P.cellsOf f0.type = 1) (c1 : P.cellsOf f1.type = 1)
    (h : DataW.trod enc P w b sp hd n t cs = some x) : ∃ u0 u1 n y0 y1, cs = [u0, u1] ∧ DataW.trod enc P w b sp hd n f0.type [u0] = some y0 ∧ DataW.trod enc P w b sp hd n f1.type [u1] = some y1 := by
  obtain ⟨y0, y1, m, _, hl, k0, k1⟩ := trod_struct2 ht h
  rw [hc] at hl
  rw [h0, c0] at k0
  rw [h1, c1] at k1
  match cs, hl with
  | [u0, u1], _ => exact ⟨u0, u1, m, y0, y1, rfl, k0, k1⟩
theorem open_st3 {H : Type} {enc : TypeId × Value → H} {P : Program} {w : World} {b : Nat} {sp : Nat → Bool} {hd : Bool} {t n : Nat} {f0 f1 f2 : Field} {cs : List Value} {x : DataW H × List MemPlace}
    (ht : P.underlying t = some (.struct #[f0, f1, f2])) (hc : P.cellsOf t = 3) (h0 : f0.offset = 0) (h1 : f1.offset = 1) (h2 : f2.offset = 2) (c0 : P.cellsOf f0.type = 1) (c1 : P.cellsOf f1.type = 1) (c2 : P.cellsOf f2.type = 1)
    (h : DataW.trod enc P w b sp hd n t cs = some x) : ∃ u0 u1 u2 n y0 y1 y2, cs = [u0, u1, u2] ∧ DataW.trod enc P w b sp hd n f0.type [u0] = some y0 ∧ DataW.trod enc P w b sp hd n f1.type [u1] = some y1 ∧ DataW.trod enc P w b sp hd n f2.type [u2] = some y2 := by
  obtain ⟨xs, m, _, _, hl, hlen, hf⟩ := DataW.trod_struct ht h
  rw [hc] at hl
  match xs, hlen with
  | [y0, y1, y2], _ =>
    have k0 := hf 0 f0 rfl
    have k1 := hf 1 f1 rfl
    have k2 := hf 2 f2 rfl
    rw [h0, c0] at k0
    rw [h1, c1] at k1
    rw [h2, c2] at k2
    match cs, hl with
    | [u0, u1, u2], _ => exact ⟨u0, u1, u2, m, y0, y1, y2, rfl, by simpa using k0, by simpa using k1, by simpa using k2⟩

theorem trodAll_stays {H : Type} {enc : TypeId × Value → H} {P : Program} (hl : laidOutB P = true) {W W' : World} {sp : Nat → Bool} (hx : Below W.heap.size W W') :
    ∀ {ts : List TypeId} {vs : List Value} {ds : List (DataW H)} {ps : List MemPlace}, (ts.all fun t => P.readableRec t && decide (t < P.types.size)) = true → DataW.TrodAll enc P W 0 (fun _ => true) true ts vs ds ps →
      (∀ p ∈ ps, p.block < W.heap.size) → (∀ p ∈ ps, sp p.block = true) → DataW.TrodAll enc P W' 0 sp true ts vs ds ps
  | [], vs, ds, ps, _, h, _, _ => by
    obtain ⟨rfl, rfl, rfl⟩ := trodAll_nil h
    exact trodAll_mk0
  | t :: ts, vs, ds, ps, ht, h, hlt, hsp => by
    simp only [List.all_cons, Bool.and_eq_true, decide_eq_true_eq] at ht
    obtain ⟨v, vs, d, ds, p, q, rfl, rfl, rfl, h0, h1⟩ := trodAll_cons h
    have h0' := WideElems.Trod_stays (sp' := sp) hl ht.1.1 ht.1.2 h0 (fun x hx' => hx.same (hlt x (by simp [hx']))) (fun x hx' => hsp x (by simp [hx']))
    exact trodAll_cons_mk h0' (trodAll_stays hl hx ht.2 h1 (fun x hx' => hlt x (by simp [hx'])) (fun x hx' => hsp x (by simp [hx'])))

/-- a law's end: true, and every argument reads as it did -/
theorem law_post {H : Type} {enc : TypeId × Value → H} {P : Program} {f : Func} {s : ChangeSpec} {tb : TypeId} {W W' : World} {args : Array Value} {ds gs : List (DataW H)} {before : List MemPlace}
    (hl : laidOutB P = true) (hts : (f.params.toList.all fun t => P.readableRec t && decide (t < P.types.size)) = true) (hr : f.resultTypes = #[tb]) (htb : P.underlying tb = some .bool) (hv : s.vars = [])
    (hW : DataW.Whole enc P f.params.toList s.vars false W args.toList ds gs before)
    (hfn : s.fn H ds = { results := [.lit (.bool true)], args := ds })
    (hx : Below W.heap.size W W') : s.post enc P f false true false false W args (.bool true) W' := by
  have hlt : ∀ p ∈ before, p.block < W.heap.size := fun p hp => hW.lt p hp
  have hW' := hW
  obtain ⟨p, q, hA, hV, rfl, hz, hn⟩ := hW
  rw [hv] at hV
  obtain ⟨rfl, rfl⟩ := trodVars_none hV
  have hfn' : s.fn H (ds ++ []) = { results := [.lit (.bool true)], args := ds } := by rw [List.append_nil]; exact hfn
  have hA' : ∀ sp : Nat → Bool, (∀ x ∈ p ++ [], sp x.block = true) → DataW.TrodAll enc P W' 0 sp true f.params.toList args.toList (s.fn H (ds ++ [])).args p := by
    intro sp hsp
    rw [hfn']
    exact trodAll_stays hl hx hts hA (fun x hx' => hlt x (by simp [hx'])) (fun x hx' => hsp x (by simp [hx']))
  refine ⟨ds, [], p ++ [], [], p, [], hW', ?_, hA' _ (fun x hx' => by simpa using hlt x hx'), ?_, World.keptBut_mono (fun x hx' => ⟨hx', ?_⟩) (hx.frame (· ∈ p ++ [])), fun h => by cases h⟩
  · rw [hfn', hr]
    exact trodAll_cons_mk (shut_bool htb _) trodAll_mk0
  · rw [hv, hfn']; rfl
  · exact .inr (by simpa using hx')
end Go.Vg
