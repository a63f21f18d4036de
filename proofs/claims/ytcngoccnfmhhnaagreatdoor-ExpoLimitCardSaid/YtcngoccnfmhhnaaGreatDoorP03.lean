/- Part of the proof of a statement about the given program. -/
import Derived.Test.YtcngoccnfmhhnaaGreatDoorP02
import Derived.Defers
import Derived.Recover
import Derived.ControlIn
import Derived.Tactics
import Derived.Tactics2
import Derived.Deep.OwnRows
set_option linter.unusedSimpArgs false
set_option linter.unusedVariables false
set_option linter.unusedSectionVars false
section
namespace Go.Vg
open Go.RowKit

theorem Owns.same {w w' : World} {B : Nat} {v : Value} {et k : Nat} {xs : List (List Value)} (h : Owns w B v et k xs) (hs : ∀ g, g < w.heap.size → v.ownBlock = some g → w'.heap[g]? = w.heap[g]?) : Owns w' B v et k xs := by
  obtain ⟨⟨hl, h⟩, h0⟩ := h
  refine ⟨⟨hl, ?_⟩, h0⟩
  rcases h with h | ⟨g, cap, cur, rfl, h2, h3, h4⟩
  · exact .inl h
  · exact .inr ⟨g, cap, cur, rfl, h2, by rw [hs g (Array.getElem?_eq_some_iff.1 h3).1 rfl]; exact h3, h4⟩
theorem Bx.same {w w' : World} {b : Nat} {us : List Value} (h : Bx w b us) (hs : w'.heap[b]? = w.heap[b]?) : Bx w' b us := by
  obtain ⟨t, h⟩ := h
  exact ⟨t, by rw [hs]; exact h⟩
theorem Owns.lt {w : World} {B : Nat} {v : Value} {et k : Nat} {xs : List (List Value)} (h : Owns w B v et k xs) : ∀ g, v.ownBlock = some g → B ≤ g ∧ g < w.heap.size := by
  intro g hg
  rcases h.1.2 with ⟨rfl, _⟩ | ⟨g', cap, cur, rfl, h2, h3, _⟩
  · simp [Value.ownBlock] at hg
  · simp only [Value.ownBlock, Option.some.injEq] at hg
    subst hg
    exact ⟨h2, (Array.getElem?_eq_some_iff.1 h3).1⟩
/-- what an append leaves alone, as a change at one block -/
theorem Kp.grew {b B : Nat} {w w1 w2 : World} {v : Value} (h : Kp b w w1) (k : Grew B v w1 w2) (hv : ∀ g, v.ownBlock = some g → w.heap.size ≤ g) (_ : B ≤ w.heap.size) : Kp b w w2 := by
  have hb := k.below w1 (Below.refl _ _)
  exact ⟨hb.os.trans h.os, hb.tape.trans h.tape, hb.output.trans h.output, Nat.le_trans h.size k.size, fun i hi hne => (k.block i (Nat.lt_of_lt_of_le hi h.size) (fun e => by have := hv i e.symm; omega)).trans (h.block i hi hne)⟩
theorem Grew.kp {B : Nat} {w w' : World} {v : Value} (k : Grew B v w w') : Kp (v.ownBlock.getD w.heap.size) w w' := by
  have hb := k.below w (Below.refl _ _)
  refine ⟨hb.os, hb.tape, hb.output, k.size, fun i hi hne => k.block i hi fun e => hne ?_⟩
  rw [← e]; rfl
end Go.Vg
end
section
namespace Go.Vg
open Go.RowKit

theorem ret_of_GDf {P : Program} {f : FuncId} {fn : Func} {c : Code} {vs : List Value} {w : World} {R : Value → World → Prop} {n : Nat}
    (hf : P.funcs[f]? = some fn) (hb : fn.body = some c) (hn : fn.ntmps = n) (hl : Nat.ble vs.length n = true)
    (h : G ⟨none, P, bodyPostD P fn fun en w' => ∃ v, en = .returned v ∧ R v w', n, []⟩ [.code c] (argEnv 0 vs) w) : Ret P f ⟨vs⟩ w R := by
  refine calls_of_wp_defers hf hb ?_
  have h1 := h _ (fits_start hn (by simpa using hl))
  refine wpIn_wide (n := 0) |>.1 ?_
  refine wpIn_mono h1 ?_
  intro ex a w' hq
  cases ex <;> exact hq

section
variable {X : Cx} {ops : Array Oper} {e : Env} {w : World} {d : Nat} {c : Option Bool} {ty : TypeId} {pos : String} {af : Array Edge} {g : Option (Nat × Bool)} {l : List Oper} {k : List Kt}

/-- the last of a region lays a deferred call -/
theorem GL.deferL {f : FuncId} {cap : List Value} {s : Nat} (hρ : X.ρ = none) (hg : guardE ops e ⟨none, .defer { callee := .value (.tmp s), args := #[], argTypes := #[] }, ty, pos, af, g⟩ = some none)
    (hx : Op1 e none (.tmp s) (.func (.func f) #[] ⟨cap⟩)) (h : G ⟨X.ρ, X.P, X.fin, X.n, { target := .fn (.func f) ⟨cap⟩, args := #[] } :: X.ds⟩ k e w) :
    GL X ops [⟨none, .defer { callee := .value (.tmp s), args := #[], argTypes := #[] }, ty, pos, af, g⟩] k e w := by
  intro t hf
  simp only [wpL]
  rw [guardE_wanted hf hg, if_pos (by rfl)]
  refine ⟨fun _ _ => trivial, ?_⟩
  have hv : (Act.mk t X.ds).eval (.tmp s) = .func (.func f) #[] ⟨cap⟩ := hx.val hf rfl
  have hr : (Oper.semAt (FW X.ρ).round (Act.mk t X.ds).eval ⟨none, .defer { callee := .value (.tmp s), args := #[], argTypes := #[] }, ty, pos, af, g⟩).run X.P w = .ok (.defer { target := .fn (.func f) ⟨cap⟩, args := #[] }) w := by
    rw [hρ]
    have : (FW (none : Option Nat)).round = none := rfl
    rw [this, Oper.semAt_none]
    simp [execOp, resolve, hv, Deferred.ofValue, Sem.run_bind, Sem.run_pure]
  rw [hr]
  exact h t hf
/-- a call that may panic, with what the frame holds then -/
theorem GL.callPk {f : FuncId} {args : Array Operand} {ats : Array TypeId} {lo : List Operand} {vs : List Value} {S : Value → World → Prop} {Z : List PanicEntry → World → Prop}
    (hf : Callable X.P f) (hc : RetP X.P f ⟨vs⟩ w S Z) (hz : ∀ ch w' t, Fits X.n e t → Z ch w' → X.fin (.panic ch) ⟨t, X.ds⟩ w') (h : ∀ v w', S v w' → GL X ops l k ((d, none, v) :: e) w')
    (hg : guardE ops e ⟨some d, .call { callee := .value (.func f), args := args, argTypes := ats }, ty, pos, af, g⟩ = some none := by exact rfl)
    (ha : args = ⟨lo⟩ := by exact rfl) (hvs : evs e lo = some vs := by exact rfl) (hn : Nat.blt d X.n = true := by exact rfl) :
    GL X ops (⟨some d, .call { callee := .value (.func f), args := args, argTypes := ats }, ty, pos, af, g⟩ :: l) k e w := by
  intro t hft
  simp only [wpL]
  rw [guardE_wanted hft hg, if_pos (by rfl)]
  refine ⟨fun _ _ => trivial, ?_⟩
  rw [Oper.semAt_eq _ _ _ (fun _ hh => by cases hh)]
  have := evs_map (ds := X.ds) hft hvs
  subst ha
  have h2 : (Array.mk lo).map (Act.mk t X.ds).eval = ⟨vs⟩ := by simp [this]
  have hrun : (execOp (Act.mk t X.ds).eval ⟨some d, .call { callee := .value (.func f), args := ⟨lo⟩, argTypes := ats }, ty, pos, af, g⟩).run X.P w = .ok (.enter f ⟨vs⟩) w := by
    simp only [execOp, resolve, h2, Act.eval, Deferred.ofValue, Sem.run_bind, Sem.run_pure, Result.andThen_ok, invoke, Array.empty_append, Array.append_empty, run_callFunc hf]
  show Oper.uponIn _ _ _ _ _ _ _ ((execOp (Act.mk t X.ds).eval _).run X.P w)
  rw [hrun]
  refine ⟨fun h => by simp [Fence.wide] at h, callsW (Calls.mono hc ?_)⟩
  rintro en w' (⟨v, rfl, hS⟩ | ⟨ch, rfl, hZ⟩)
  · exact h v w' hS _ (hft.put (by simpa [Nat.blt_eq] using hn) none v)
  · exact post_panic (hz ch w' t hft hZ)
end

/-- the deferred closure, at a return -/
theorem leaves_ret {P : Program} {fn : Func} {t : Array Value} {f : FuncId} {cap : List Value} {w : World} {R : Value → World → Prop} {S : World → Prop} (hf : Callable P f)
    (hc : CallsD P f ⟨cap⟩ .returning w fun en u w' => en = .returned (.tuple #[]) ∧ u = .returning ∧ S w') (h : ∀ w', S w' → ∃ v, (results fn t).run P w' = .ok v w' ∧ R v w') :
    Leaves P fn t (fun en w' => ∃ v, en = .returned v ∧ R v w') [{ target := .fn (.func f) ⟨cap⟩, args := #[] }] .returning w := by
  refine leaves_cons (f := f) (args := ⟨cap⟩) (by simp) (by simp [invoke, run_callFunc hf]) ?_
  refine hc.mono ?_
  rintro en u w' ⟨rfl, rfl, hS⟩
  obtain ⟨v, hr, hR⟩ := h w' hS
  exact ⟨v, hr, v, rfl, hR⟩
/-- the deferred closure, at a panic that it catches -/
theorem leaves_panic {P : Program} {fn : Func} {t : Array Value} {f : FuncId} {cap : List Value} {w : World} {R : Value → World → Prop} {S : World → Prop} {v0 : Value} (hf : Callable P f)
    (hc : CallsD P f ⟨cap⟩ (.panicking [{ v := v0, recovered := false }]) w fun en u w' => en = .returned (.tuple #[]) ∧ u = .panicking [{ v := v0, recovered := true }] ∧ S w') (h : ∀ w', S w' → ∃ v, (results fn t).run P w' = .ok v w' ∧ R v w') :
    Leaves P fn t (fun en w' => ∃ v, en = .returned v ∧ R v w') [{ target := .fn (.func f) ⟨cap⟩, args := #[] }] (.panicking [{ v := v0, recovered := false }]) w := by
  refine leaves_cons (f := f) (args := ⟨cap⟩) (by simp) (by simp [invoke, run_callFunc hf]) ?_
  refine hc.mono ?_
  rintro en u w' ⟨rfl, rfl, hS⟩
  obtain ⟨v, hr, hR⟩ := h w' hS
  exact ⟨v, hr, v, rfl, hR⟩

def catchFin (S : World → Prop) : Exit → Act → World → Prop
  | .normal, a, w => a.defers = [] ∧ S w
  | .ret, a, w => a.defers = [] ∧ S w
  | _, _, _ => False
theorem G.endCatch {X : Cx} {e : Env} {w : World} {S : World → Prop} (hX : X.fin = catchFin S) (hd : X.ds = []) (h : S w) : G X [] e w := by
  refine G.nil fun t _ => ?_
  rw [hX, hd]
  exact ⟨rfl, h⟩
theorem calls_catch {P : Program} {f : FuncId} {fn : Func} {id : Nat} {rest : Code} {d : Nat} {ty : TypeId} {pos : String} {vs : List Value} {w : World} {S : World → Prop} {n : Nat} {u u' : FrameMode} {v : Value}
    (hf : P.funcs[f]? = some fn) (hb : fn.body = some (.seq (.region id #[⟨some d, .call { callee := .builtin .recover, args := #[], argTypes := #[] }, ty, pos, #[], none⟩] false) rest)) (hn : fn.ntmps = n) (hl : Nat.ble vs.length n = true) (hd : Nat.blt d n = true) (hr : fn.results = #[])
    (hu : ∀ (c : Frame) (cs : List Frame), c.mode = u → (match recoverD (c :: cs) with | some (x, cs') => x = v ∧ cs' = { c with mode := u' } :: cs | none => v = .nilIface ∧ u' = u))
    (h : G ⟨none, P, catchFin S, n, []⟩ [.code rest] ((d, none, v) :: argEnv 0 vs) w) : CallsD P f ⟨vs⟩ u w fun en m w' => en = .returned (.tuple #[]) ∧ m = u' ∧ S w' := by
  refine callsD_of_wpS hf hb fun c₀ cs hm => ?_
  refine wpS_seq (wpS_region ?_)
  have hfit := (fits_start (vs := vs) hn (by simpa using hl)).put (d := d) (by simpa [Nat.blt_eq] using hd) none v
  have h1 := (wpIn_wide (n := 0)).1 (wpIn_mono (h _ hfit) (Q' := fun ex a w' => bodyPostS P fn c₀ cs (fun en m w' => en = .returned (.tuple #[]) ∧ m = u' ∧ S w') ex a ({ c₀ with mode := u' } :: cs) w') (by
    intro ex a w' hq
    cases ex
    case normal => exact ⟨hq.1, u', rfl, .tuple #[], results_none hr _ _ _, rfl, rfl, hq.2⟩
    case ret => exact ⟨hq.1, u', rfl, .tuple #[], results_none hr _ _ _, rfl, rfl, hq.2⟩
    all_goals exact hq.elim))
  have h2 := wpS_of_wp h1
  have hrun : ∀ a : Act, (execOp a.eval ⟨some d, .call { callee := .builtin .recover, args := #[], argTypes := #[] }, ty, pos, #[], none⟩).run P w = .ok .recover w := fun a => by
    simp [execOp, resolve, invoke]
    rfl
  have hrange : List.range (#[(⟨some d, .call { callee := .builtin .recover, args := #[], argTypes := #[] }, ty, pos, #[], none⟩ : Oper)]).size = [0] := rfl
  rw [hrange]
  simp only [wpOpsS, List.getElem?_toArray, List.getElem?_cons_zero, Region.wanted, if_true, hrun]
  have hu := hu c₀ cs hm
  split at hu
  · rename_i x cs' hx
    obtain ⟨rfl, rfl⟩ := hu
    rw [hx]
    exact h2
  · rename_i hx
    obtain ⟨rfl, rfl⟩ := hu
    rw [hx]
    have : ({ c₀ with mode := u' } : Frame) = c₀ := by rw [← hm]
    rw [this] at h2
    exact h2
end Go.Vg
end
section
namespace Go.Vg
open Go.RowKit
section
variable {X : Cx} {ops : Array Oper} {l : List Oper} {k : List Kt} {e : Env} {w : World} {N : Env → World → Prop} {d : Nat} {c : Option Bool} {ty : TypeId} {pos : String} {af : Array Edge} {g : Option (Nat × Bool)}

theorem Step.eqIface (T : Tb X.P) {xt yt : TypeId} {x y : Operand} {t : TypeId} {v : Value} {ms : Array (String × TypeId)} (hg : guardE ops e ⟨some d, .binOp .eql xt x y yt, ty, pos, af, g⟩ = some c)
    (hx : Op1 e c x (.iface t v)) (hy : Op1 e c y .nilIface) (ht : T.ty xt = some (.interface ms)) (hn : Nat.blt d X.n = true)
    (h : N ((d, c, .bool false) :: e) w) : Step X ops ⟨some d, .binOp .eql xt x y yt, ty, pos, af, g⟩ e w N :=
  Step.quiet rfl (by simpa [Nat.blt_eq] using hn) hg (fun _ hh => by cases hh) (fun t' hf hc => by
    have hT := T.ok _ _ ht
    have h1 : (eqGuard .eql xt x y (.iface t v) .nilIface).run X.P w = .ok () w := by simp [eqGuard]
    have he : ∀ (n : Nat) (w : World), (Op.equalIn (n + 1) xt (.iface t v) .nilIface).run X.P w = .ok false w := fun n w => by
      simp [Op.equalIn, run_underlying hT]
    have hm : Op.maxDepth = 9999 + 1 := rfl
    have h2 : (binOp .eql xt (.iface t v) .nilIface).run X.P w = .ok (.bool false) w := by
      simp only [binOp, Op.equal, hm, Sem.run_bind, he, Sem.run_map, Result.andThen_ok, Sem.run_pure]
    simp only [execOp, hx.val hf hc, hy.val hf hc, Sem.run_bind, h1, h2, Result.andThen_ok, Sem.run_pure]) h
theorem Step.eqNil (T : Tb X.P) {xt yt : TypeId} {x : Operand} {u : Value} {ms : Array (String × TypeId)} (hg : guardE ops e ⟨some d, .binOp .eql xt x (.const u) yt, ty, pos, af, g⟩ = some c)
    (hx : Op1 e c x .nilIface) (hy : Op1 e c (.const u) .nilIface) (ht : T.ty xt = some (.interface ms)) (hn : Nat.blt d X.n = true)
    (h : N ((d, c, .bool true) :: e) w) : Step X ops ⟨some d, .binOp .eql xt x (.const u) yt, ty, pos, af, g⟩ e w N :=
  Step.quiet rfl (by simpa [Nat.blt_eq] using hn) hg (fun _ hh => by cases hh) (fun t' hf hc => by
    have hT := T.ok _ _ ht
    have h1 : (eqGuard .eql xt x (.const u) .nilIface .nilIface).run X.P w = .ok () w := by simp [eqGuard]
    have he : ∀ (n : Nat) (w : World), (Op.equalIn (n + 1) xt .nilIface .nilIface).run X.P w = .ok true w := fun n w => by
      simp [Op.equalIn, run_underlying hT]
    have hm : Op.maxDepth = 9999 + 1 := rfl
    have h2 : (binOp .eql xt .nilIface .nilIface).run X.P w = .ok (.bool true) w := by
      simp only [binOp, Op.equal, hm, Sem.run_bind, he, Sem.run_map, Result.andThen_ok, Sem.run_pure]
    simp only [execOp, hx.val hf hc, hy.val hf hc, Sem.run_bind, h1, h2, Result.andThen_ok, Sem.run_pure]) h
theorem Step.assertT (T : Tb X.P) {x : Operand} {xt t : TypeId} {v : Value} {td : TypeDesc} (hg : guardE ops e ⟨some d, .typeAssert x xt t true, ty, pos, af, g⟩ = some c)
    (hx : Op1 e c x (.iface t v)) (ht : T.ty t = some td) (hi : ifaceT td = false) (hn : Nat.blt d X.n = true)
    (h : N ((d, c, .tuple ⟨[v, .bool true]⟩) :: e) w) : Step X ops ⟨some d, .typeAssert x xt t true, ty, pos, af, g⟩ e w N :=
  Step.quiet rfl (by simpa [Nat.blt_eq] using hn) hg (fun _ hh => by cases hh) (fun t' hf hc => by
    have hT := T.ok _ _ ht
    simp only [execOp, hx.val hf hc, Instr.typeAssert, Sem.run_bind, run_underlying hT, Result.andThen_ok]
    cases td <;> first | (cases hi; done) | simp) h
end
/-- four results, out of cells -/
theorem resC4 {P : Program} {fn : Func} {n : Nat} {e : Env} {t : Array Value} (hf : Fits n e t) {s1 t1 s2 t2 s3 t3 s4 t4 : Nat} {p1 u1 p2 u2 p3 u3 p4 u4 : Value} {d1 d2 d3 d4 : TypeDesc} (hr : fn.results = #[.cell s1 t1, .cell s2 t2, .cell s3 t3, .cell s4 t4])
    (hv1 : look e s1 = some (none, p1)) (hv2 : look e s2 = some (none, p2)) (hv3 : look e s3 = some (none, p3)) (hv4 : look e s4 = some (none, p4))
    (ht1 : P.underlying t1 = some d1) (ha1 : aggT d1 = false) (ht2 : P.underlying t2 = some d2) (ha2 : aggT d2 = false) (ht3 : P.underlying t3 = some d3) (ha3 : aggT d3 = false) (ht4 : P.underlying t4 = some d4) (ha4 : aggT d4 = false)
    {w : World} (hc1 : CellAt w p1 u1) (hc2 : CellAt w p2 u2) (hc3 : CellAt w p3 u3) (hc4 : CellAt w p4 u4) : (results fn t).run P w = .ok (.tuple ⟨[u1, u2, u3, u4]⟩) w := by
  obtain ⟨a1, rfl, hc1⟩ := hc1
  obtain ⟨a2, rfl, hc2⟩ := hc2
  obtain ⟨a3, rfl, hc3⟩ := hc3
  obtain ⟨a4, rfl, hc4⟩ := hc4
  have h1 : t.getD s1 undef = .pointer (some a1) := (hf.get _ _ _ hv1).2
  have h2 : t.getD s2 undef = .pointer (some a2) := (hf.get _ _ _ hv2).2
  have h3 : t.getD s3 undef = .pointer (some a3) := (hf.get _ _ _ hv3).2
  have h4 : t.getD s4 undef = .pointer (some a4) := (hf.get _ _ _ hv4).2
  have e1 : (loadVar t1 a1).run P w = .ok u1 w := by simp [loadVar, Sem.run_bind, run_isAgg ht1, ha1, hc1]
  have e2 : (loadVar t2 a2).run P w = .ok u2 w := by simp [loadVar, Sem.run_bind, run_isAgg ht2, ha2, hc2]
  have e3 : (loadVar t3 a3).run P w = .ok u3 w := by simp [loadVar, Sem.run_bind, run_isAgg ht3, ha3, hc3]
  have e4 : (loadVar t4 a4).run P w = .ok u4 w := by simp [loadVar, Sem.run_bind, run_isAgg ht4, ha4, hc4]
  simp only [results, hr, List.mapM_toArray, List.mapM_cons, List.mapM_nil, h1, h2, h3, h4, asAddr, Sem.run_bind, Sem.run_map, Sem.run_pure, Result.andThen_ok, e1, e2, e3, e4]
  rfl
end Go.Vg
end
section
namespace Go.Vg
open Go.RowKit

theorem flatten_set1 {k : Nat} : ∀ (xs : List (List Value)) (j off : Nat) (u : Value), (∀ x ∈ xs, x.length = k) → j < xs.length → off < k → (xs.set j ((xs.getD j []).set off u)).flatten = xs.flatten.set (j * k + off) u
  | [], j, _, _, _, hj, _ => by simp at hj
  | x :: r, 0, off, u, h, _, ho => by
    have hx : x.length = k := h x (by simp)
    simp only [List.set_cons_zero, List.flatten_cons, List.getD_cons_zero, Nat.zero_mul, Nat.zero_add]
    rw [List.set_append_left _ _ (by omega)]
  | x :: r, j + 1, off, u, h, hj, ho => by
    have hx : x.length = k := h x (by simp)
    have ih := flatten_set1 r j off u (fun y hy => h y (by simp [hy])) (by simpa using hj) ho
    simp only [List.set_cons_succ, List.flatten_cons, List.getD_cons_succ]
    rw [List.set_append_right _ _ (by rw [hx, Nat.succ_mul]; omega), ih, hx, Nat.succ_mul]
    congr 2
    omega

section
variable {X : Cx} {ops : Array Oper} {l : List Oper} {kk : List Kt} {e : Env} {w : World} {N : Env → World → Prop} {d : Nat} {c : Option Bool} {ty : TypeId} {pos : String} {af : Array Edge} {g : Option (Nat × Bool)}

theorem Step.storeRowF (T : Tb X.P) {x y : Operand} {t : TypeId} {v u z : Value} {k by_ B et j off : Nat} {xs : List (List Value)} (hg : guardE ops e ⟨none, .store t x y, ty, pos, af, g⟩ = some none)
    (hx : Op1 e none x (padd (padd v (j * k)) off)) (hy : Op1 e none y u) (hi : T.inf t = some (z, 1, by_)) (hv : u.cells = ⟨[u]⟩) (h1 : u.oneCell' = true)
    (ho : Owns w B v et k xs) (hj : j < xs.length) (hoff : off < k)
    (h : ∀ w', Owns w' B v et k (xs.set j ((xs.getD j []).set off u)) → Grew B v w w' → N e w') : Step X ops ⟨none, .store t x y, ty, pos, af, g⟩ e w N := by
  obtain ⟨⟨hl, hr⟩, hk, hb⟩ := ho
  rcases hr with ⟨rfl, hn⟩ | ⟨gb, cap, ⟨us⟩, rfl, hB, hgb, hc, hm, hsz, htk⟩
  · omega
  · have hle : xs.length * k ≤ cap * k := Nat.mul_le_mul_right _ hc
    have hjk : (j + 1) * k ≤ xs.length * k := Nat.mul_le_mul_right _ hj
    rw [Nat.add_mul, Nat.one_mul] at hjk
    have hus : us.length = cap * k := hsz
    simp only at htk
    obtain ⟨w', hrun, hw, hx'⟩ := run_storeCells_t X.P et [u] gb (j * k + off) 0 us w hgb (by simp only [List.length_cons, List.length_nil]; omega) (by intro v hv; simp only [List.mem_cons, List.not_mem_nil, or_false] at hv; subst hv; exact h1)
    rw [Nat.add_zero] at hx'
    have hset : us.take (j * k + off) ++ [u] ++ us.drop (j * k + off + [u].length) = us.set (j * k + off) u := by
      rw [List.set_eq_take_append_cons_drop, if_pos (by omega)]
      simp
    rw [hset] at hx'
    refine Step.effNone rfl hg (fun _ hh => by cases hh) (w' := w') (fun t' hf => ?_) (h w' ?_ ?_)
    · have hp : padd (padd (Value.slice (some ⟨gb, 0, none⟩) xs.length cap) (j * k)) off = .pointer (some ⟨gb, j * k + off, none⟩) := by simp [padd, Addr.add_lit]
      have hsz' : ¬ ((⟨[u]⟩ : Array Value).size ≠ 1) := by simp
      simp only [execOp, hx.val hf rfl, hy.val hf rfl, hp, Instr.storeAt, Instr.sureAddr, storeVar, Sem.run_bind, Sem.run_pure, Result.andThen_ok, run_sizeOf hi, hv, if_neg hsz', hrun]
    · have hfl := flatten_set1 xs j off u hk hj hoff
      have hmem : ∀ y ∈ xs.set j ((xs.getD j []).set off u), y.length = k := by
        intro y hy
        rcases List.mem_or_eq_of_mem_set hy with hy | rfl
        · exact hk y hy
        · rw [List.length_set, List.getD_eq_getElem?_getD, List.getElem?_eq_getElem hj]
          exact hk _ (List.getElem_mem hj)
      refine ⟨⟨?_, .inr ⟨gb, cap, _, by rw [List.length_set], hB, hx', by rw [List.length_set]; exact hc, hm, ?_, ?_⟩⟩, hmem, by rw [List.length_set]; exact hb⟩
      · rw [flatten_length _ hmem]
      · simp only [List.size_toArray, List.length_set]; exact hus
      · rw [List.length_set, hfl, ← htk]
        simp only
        rw [List.take_set]
    · exact ⟨fun w0 hb0 => hb0.wr hw hB, by rw [hw.size]; exact Nat.le_refl _, fun q hq hne => hw.block q (fun e => hne (by rw [e]; rfl))⟩
end
end Go.Vg
end
section
namespace Go.Vg
open Go.RowKit

structure Kq (P : Nat → Prop) (w w' : World) : Prop where
  os : w'.os = w.os
  tape : w'.tape = w.tape
  output : w'.output = w.output
  size : w.heap.size ≤ w'.heap.size
  same : ∀ g, g < w.heap.size → P g → w'.heap[g]? = w.heap[g]?
theorem Kq.refl (P : Nat → Prop) (w : World) : Kq P w w := ⟨rfl, rfl, rfl, Nat.le_refl _, fun _ _ _ => rfl⟩
theorem Kq.trans {P : Nat → Prop} {w w1 w2 : World} (h : Kq P w w1) (k : Kq P w1 w2) : Kq P w w2 :=
  ⟨k.os.trans h.os, k.tape.trans h.tape, k.output.trans h.output, Nat.le_trans h.size k.size, fun g hg hp => (k.same g (Nat.lt_of_lt_of_le hg h.size) hp).trans (h.same g hg hp)⟩
theorem Kq.mono {P Q : Nat → Prop} {w w1 : World} (h : Kq P w w1) (hq : ∀ g, g < w.heap.size → Q g → P g) : Kq Q w w1 :=
  ⟨h.os, h.tape, h.output, h.size, fun g hg hp => h.same g hg (hq g hg hp)⟩
theorem Ext.kq {P : Nat → Prop} {w w1 : World} (h : Ext w w1) : Kq P w w1 := ⟨h.os, h.tape, h.output, h.size, fun g hg _ => h.block g hg⟩
theorem Wr.kq {P : Nat → Prop} {b : Nat} {w w1 : World} (h : Wr b w w1) (hb : ¬ P b) : Kq P w w1 :=
  ⟨h.os, h.tape, h.output, Nat.le_of_eq h.size.symm, fun g _ hp => h.block g fun e => hb (e ▸ hp)⟩
theorem Kp.kq {P : Nat → Prop} {b : Nat} {w w1 : World} (h : Kp b w w1) (hb : ¬ P b) : Kq P w w1 :=
  ⟨h.os, h.tape, h.output, h.size, fun g hg hp => h.block g hg fun e => hb (e ▸ hp)⟩
theorem Grew.kq {P : Nat → Prop} {B : Nat} {v : Value} {w w1 : World} (h : Grew B v w w1) (hv : ∀ g, v.ownBlock = some g → ¬ P g) : Kq P w w1 := by
  have hb := h.below w (Below.refl _ _)
  exact ⟨hb.os, hb.tape, hb.output, h.size, fun g hg hp => h.block g hg fun e => hv g e.symm hp⟩
end Go.Vg
end
section
namespace Go.Vg
open Go.RowKit

theorem subS_own {v : Value} {k l h : Nat} : (subS v k l h).ownBlock = v.ownBlock := by
  unfold subS
  split
  · rename_i a n cap
    cases a with
    | none => split <;> rfl
    | some a =>
      split
      · rfl
      · simp only [Option.map_some, Value.ownBlock, Addr.add_block]
  · rfl
section
variable {X : Cx} {ops : Array Oper} {l : List Oper} {kk : List Kt} {e : Env} {w : World} {N : Env → World → Prop} {d : Nat} {c : Option Bool} {ty : TypeId} {pos : String} {af : Array Edge} {g : Option (Nat × Bool)}

theorem Step.make1 (T : Tb X.P) {x y : Operand} {t et : TypeId} {z : Value} {bytes : Nat} (n : Nat) {m : Int} (hg : guardE ops e ⟨some d, .makeSlice t x y, ty, pos, af, g⟩ = some none)
    (hx : Op1 e none x (.int .i64 m)) (hy : Op1 e none y (.int .i64 m)) (hm : m = n) (ht : T.ty t = some (.slice et)) (hi : T.inf et = some (z, 1, bytes)) (hz : z.cells = ⟨[z]⟩)
    (hb : bytes * n ≤ 140737488355328) (hl : n ≤ 140737488355328) (hn : Nat.blt d X.n = true)
    (h : ∀ v w', Owns w' w.heap.size v et 1 ((List.replicate n z).map fun u => [u]) → w'.heap.size = w.heap.size + 1 → Ext w w' → v.ownBlock = some w.heap.size → N ((d, none, v) :: e) w') :
    Step X ops ⟨some d, .makeSlice t x y, ty, pos, af, g⟩ e w N := by
  obtain ⟨i, hi1, hi2, hi3, hi4⟩ := T.iok _ _ _ _ hi
  have hT := T.ok _ _ ht
  subst hm
  have hbb : i.bytes * n ≤ 281474976710656 := by rw [hi4]; omega
  have hr := run_make_row (P := X.P) t et i z hT hi1 hi2 hi3 hz .i64 .i64 n hbb (by omega) w
  have hfl : ((List.replicate n z).map fun u => [u]).flatten = List.replicate n z := by
    have : ∀ l : List Value, (l.map fun u => [u]).flatten = l := fun l => by
      induction l with
      | nil => rfl
      | cons a l ih => simp [ih]
    exact this _
  refine Step.eff (v := .slice (some ⟨w.heap.size, 0, none⟩) n n) (w' := w.alloc (.cells (madeCells #[z] n) et)) rfl (by simpa [Nat.blt_eq] using hn) hg (fun _ hh => by cases hh) (fun t' hf => ?_) (h _ _ ⟨⟨?_, ?_⟩, ?_, ?_⟩ (by simp) (Ext.alloc _ _) rfl)
  · simp only [execOp, hx.val hf rfl, hy.val hf rfl, Sem.run_bind, hr, Result.andThen_ok, Sem.run_pure]
  · rw [hfl]; simp
  · right
    refine ⟨w.heap.size, n, madeCells #[z] n, by simp, Nat.le_refl _, heap_alloc_new _ _, by simp, by unfold maxLen; omega, by simp [madeCells], ?_⟩
    rw [hfl, toList_madeCells_one]
    simp
  · intro x hx
    simp only [List.mem_map] at hx
    obtain ⟨u, _, rfl⟩ := hx
    rfl
  · simp; exact hl
theorem sMkS (T : Tb X.P) {x y : Operand} {t et : TypeId} {z : Value} {bytes : Nat} (n : Nat) {m : Int}
    (h : ∀ v w', Owns w' w.heap.size v et 1 ((List.replicate n z).map fun u => [u]) → w'.heap.size = w.heap.size + 1 → Ext w w' → v.ownBlock = some w.heap.size → GL X ops l kk ((d, none, v) :: e) w')
    (hm : m = n := by omega) (hb : bytes * n ≤ 140737488355328 := by omega) (hl : n ≤ 140737488355328 := by omega)
    (hg : guardE ops e ⟨some d, .makeSlice t x y, ty, pos, af, g⟩ = some none := by exact rfl)
    (hx : Op1 e none x (.int .i64 m) := by exact Op1.of rfl (fun _ => rfl)) (hy : Op1 e none y (.int .i64 m) := by exact Op1.of rfl (fun _ => rfl)) (ht : T.ty t = some (.slice et) := by exact rfl) (hi : T.inf et = some (z, 1, bytes) := by exact rfl) (hz : z.cells = ⟨[z]⟩ := by exact rfl)
    (hn : Nat.blt d X.n = true := by exact rfl) :
    GL X ops (⟨some d, .makeSlice t x y, ty, pos, af, g⟩ :: l) kk e w := GL.cons (Step.make1 T n hg hx hy hm ht hi hz hb hl hn h)
end
end Go.Vg
end
section
namespace Go.Vg
open Go.RowKit
section
variable {X : Cx} {ops : Array Oper} {l : List Oper} {kk : List Kt} {e : Env} {w : World} {N : Env → World → Prop} {d : Nat} {c : Option Bool} {ty : TypeId} {pos : String} {af : Array Edge} {g : Option (Nat × Bool)}
theorem flat1 : ∀ l : List Value, (l.map fun u => [u]).flatten = l
  | [] => rfl
  | a :: l => by rw [List.map_cons, List.flatten_cons, flat1 l]; rfl
theorem Step.make2 (T : Tb X.P) {x y : Operand} {t et : TypeId} {z : Value} {bytes : Nat} (n cp : Nat) {m m' : Int} (hg : guardE ops e ⟨some d, .makeSlice t x y, ty, pos, af, g⟩ = some none)
    (hx : Op1 e none x (.int .i64 m)) (hy : Op1 e none y (.int .i64 m')) (hm : m = n ∧ m' = cp ∧ n ≤ cp) (ht : T.ty t = some (.slice et)) (hi : T.inf et = some (z, 1, bytes)) (hz : z.cells = ⟨[z]⟩)
    (hb : bytes * cp ≤ 140737488355328) (hl : cp ≤ 140737488355328) (hn : Nat.blt d X.n = true)
    (h : ∀ v w', Owns w' w.heap.size v et 1 ((List.replicate n z).map fun u => [u]) → w'.heap.size = w.heap.size + 1 → Ext w w' → v.ownBlock = some w.heap.size → N ((d, none, v) :: e) w') :
    Step X ops ⟨some d, .makeSlice t x y, ty, pos, af, g⟩ e w N := by
  obtain ⟨i, hi1, hi2, hi3, hi4⟩ := T.iok _ _ _ _ hi
  have hT := T.ok _ _ ht
  obtain ⟨rfl, rfl, hnc⟩ := hm
  have hbb : (i.bytes : Int) * (cp : Int) ≤ 281474976710656 := by rw [hi4, ← Int.natCast_mul]; omega
  have hr := run_make (P := X.P) w t et i z hT hi1 hi2 .i64 .i64 n cp (by omega) (by omega) hbb (by omega)
  rw [hz, hi3, Int.toNat_natCast, Int.toNat_natCast, Nat.mul_one] at hr
  refine Step.eff (v := .slice (some ⟨w.heap.size, 0, none⟩) n cp) (w' := w.alloc (.cells (madeCells #[z] cp) et)) rfl (by simpa [Nat.blt_eq] using hn) hg (fun _ hh => by cases hh) (fun t' hf => ?_) (h _ _ ⟨⟨?_, ?_⟩, ?_, ?_⟩ (by simp) (Ext.alloc _ _) rfl)
  · simp only [execOp, hx.val hf rfl, hy.val hf rfl, Sem.run_bind, hr, Result.andThen_ok, Sem.run_pure]
  · rw [flat1]; simp
  · right
    refine ⟨w.heap.size, cp, madeCells #[z] cp, by simp, Nat.le_refl _, heap_alloc_new _ _, by simpa using hnc, by unfold maxLen; omega, by simp [madeCells], ?_⟩
    rw [flat1, toList_madeCells_one]
    simp [List.take_replicate, Nat.min_eq_left hnc]
  · intro x hx
    simp only [List.mem_map] at hx
    obtain ⟨u, _, rfl⟩ := hx
    rfl
  · simp; omega
end
end Go.Vg
end
section
namespace Go.Vg
open Go.RowKit Ieee

theorem d_least : double.leastPlace = -1074 := by decide
theorem d_bin : double.binade = 4503599627370496 := by decide
theorem d_inf : double.infRung = 9218868437227405312 := by decide
theorem d_sw : double.signWeight = 9223372036854775808 := by decide
theorem read_word (s : Bool) (r : Nat) (h : r < 9218868437227405312) : double.read (double.word s r) = if r < 4503599627370496 then .number s r (-1074) else .number s (4503599627370496 + r % 4503599627370496) (-1074 + (r / 4503599627370496 - 1 : Nat)) := by
  unfold Format.read Format.word
  rw [d_least, d_bin, d_inf, d_sw]
  cases s with
  | false =>
    have h1 : r / 9223372036854775808 % 2 = 0 := by omega
    have h2 : r % 9223372036854775808 = r := by omega
    simp only [Bool.false_eq_true, if_false, h1, h2]
    split
    · rfl
    · rfl
  | true =>
    have h1 : (9223372036854775808 + r) / 9223372036854775808 % 2 = 1 := by omega
    have h2 : (9223372036854775808 + r) % 9223372036854775808 = r := by omega
    simp only [if_true, h1, h2]
    split
    · rfl
    · rfl
end Go.Vg
end
section
namespace Go.Vg
open Go.RowKit Ieee

theorem cmp_le {x y : Int} (h : compare x y = .lt ∨ compare x y = .eq) : x ≤ y := by
  simp only [compare, compareOfLessAndEq] at h
  split at h
  · omega
  · split at h
    · omega
    · simp at h
end Go.Vg
end
section
namespace Go.Vg
open Go.RowKit
section
variable {X : Cx} {ops : Array Oper} {l : List Oper} {k : List Kt} {e : Env} {w : World} {N : Env → World → Prop} {d : Nat} {c : Option Bool} {ty : TypeId} {pos : String} {af : Array Edge} {g : Option (Nat × Bool)}
theorem Step.andNot {xt yt : TypeId} {x y : Operand} {q : IntKind} {a b r : Int} (hg : guardE ops e ⟨some d, .binOp .andNot xt x y yt, ty, pos, af, g⟩ = some c)
    (hx : Op1 e c x (.int q a)) (hy : Op1 e c y (.int q b)) (hr : bits .andNot q a b = r) (hn : Nat.blt d X.n = true)
    (h : N ((d, c, .int q r) :: e) w) : Step X ops ⟨some d, .binOp .andNot xt x y yt, ty, pos, af, g⟩ e w N :=
  Step.quiet rfl (by simpa [Nat.blt_eq] using hn) hg (fun _ hh => by cases hh) (fun t hf hc => by
    simp only [execOp, hx.val hf hc, hy.val hf hc]
    simp [go_sem, ← hr]; try rfl) h
end
end Go.Vg
end
section
namespace Go.Nm

def infB : Nat := 2047 * 2 ^ 52
/-- the parts of a float's bits: its number is m times 2 to the k - 1074 -/
def mB (b : Nat) : Nat := if b / 2 ^ 52 = 0 then b else b % 2 ^ 52 + 2 ^ 52
def kB (b : Nat) : Nat := b / 2 ^ 52 - 1
/-- twice the number, in units of the least float; and half a step above -/
def vB (b : Nat) : Nat := 2 * mB b * 2 ^ kB b
def hB (b : Nat) : Nat := (2 * mB b + 1) * 2 ^ kB b
theorem parts_of {K m : Nat} (hm : m < 2 ^ 53) (h : 2 ^ 52 ≤ m ∨ K = 0) : mB (K * 2 ^ 52 + m) = m ∧ kB (K * 2 ^ 52 + m) = K := by
  unfold mB kB
  by_cases h2 : 2 ^ 52 ≤ m
  · have e : K * 2 ^ 52 + m = (K + 1) * 2 ^ 52 + (m - 2 ^ 52) := by rw [Nat.succ_mul]; omega
    have hd : (K * 2 ^ 52 + m) / 2 ^ 52 = K + 1 := by rw [e]; omega
    have hr : (K * 2 ^ 52 + m) % 2 ^ 52 = m - 2 ^ 52 := by rw [e]; omega
    rw [hd, hr, if_neg (by omega)]
    omega
  · obtain rfl := h.resolve_left h2
    have hd : (0 * 2 ^ 52 + m) / 2 ^ 52 = 0 := by omega
    rw [hd, if_pos rfl]
    omega
theorem bits_of (b : Nat) : b = kB b * 2 ^ 52 + mB b ∧ mB b < 2 ^ 53 ∧ (2 ^ 52 ≤ mB b ∨ kB b = 0) := by
  unfold mB kB
  split <;> omega
theorem vB_succ (b : Nat) : vB (b + 1) = vB b + 2 * 2 ^ kB b := by
  obtain ⟨h1, h2, h3⟩ := bits_of b
  have e : vB (kB b * 2 ^ 52 + (mB b + 1)) = 2 * (mB b + 1) * 2 ^ kB b := by
    by_cases hc : mB b + 1 = 2 ^ 53
    · obtain ⟨p1, p2⟩ := parts_of (K := kB b + 1) (m := 2 ^ 52) (by decide) (.inl (Nat.le_refl _))
      have : kB b * 2 ^ 52 + (mB b + 1) = (kB b + 1) * 2 ^ 52 + 2 ^ 52 := by rw [hc]; omega
      rw [this]
      unfold vB
      rw [p1, p2, hc, Nat.pow_succ 2 (kB b)]
      generalize 2 ^ kB b = z
      omega
    · obtain ⟨p1, p2⟩ := parts_of (K := kB b) (m := mB b + 1) (by omega) (by omega)
      unfold vB
      rw [p1, p2]
  have e2 : b + 1 = kB b * 2 ^ 52 + (mB b + 1) := by omega
  rw [e2, e]
  unfold vB
  rw [Nat.mul_add, Nat.add_mul]
theorem vB_lt (b : Nat) : vB b < vB (b + 1) := by
  rw [vB_succ]
  have := Nat.two_pow_pos (kB b)
  omega
theorem vB_mono {a b : Nat} (h : a ≤ b) : vB a ≤ vB b := by
  induction b with
  | zero => rw [show a = 0 by omega]; exact Nat.le_refl _
  | succ b ih =>
    by_cases hc : a = b + 1
    · subst hc; exact Nat.le_refl _
    · exact Nat.le_trans (ih (by omega)) (Nat.le_of_lt (vB_lt b))

/-- lo is the greatest float that is no more than X / B -/
structure IsLo (X B lo : Nat) : Prop where
  lt : lo < infB
  le : vB lo * B ≤ X
  up : lo + 1 = infB ∨ X < vB (lo + 1) * B
theorem IsLo.uniq {X B a b : Nat} (h : IsLo X B a) (k : IsLo X B b) : a = b := by
  have go : ∀ {a b : Nat}, IsLo X B a → IsLo X B b → ¬ a < b := fun {a b} h k hlt => by
    rcases h.up with h1 | h1
    · have := k.lt; omega
    · have := Nat.mul_le_mul_right B (vB_mono (show a + 1 ≤ b by omega))
      have := k.le
      omega
  have h1 := go h k
  have h2 := go k h
  omega
/-- to the even one, where X / B stands in the middle -/
def refR (X B lo : Nat) : Nat := if hB lo * B < X ∨ (hB lo * B = X ∧ lo % 2 = 1) then lo + 1 else lo

/-- rounding of q times 2 to the e, or a little more; L: the bits of q -/
def near (q L : Nat) (e : Int) (more : Bool) : Nat :=
  let drop : Int := max ((L : Int) - 53) (-1074 - e)
  if 63 < drop then 0
  else
    let d := drop.toNat
    let m0 := q / 2 ^ d
    let rest := q % 2 ^ d
    let half := 2 ^ (d - 1)
    let m := if half < rest ∨ (rest = half ∧ (more = true ∨ m0 % 2 = 1)) then m0 + 1 else m0
    let e1 : Int := e + drop
    let e2 : Int := if m = 2 ^ 53 then e1 + 1 else e1
    let m2 := if m = 2 ^ 53 then 2 ^ 52 else m
    if 971 < e2 then infB else if m2 < 2 ^ 52 then m2 else (e2 + 1075).toNat * 2 ^ 52 + m2 % 2 ^ 52
/-- the same, without the cut -/
theorem near_big {q L : Nat} {e : Int} {more : Bool} {K d : Nat} (hq : q < 2 ^ 58) (hL : 2 ^ (L - 1) ≤ q ∧ q < 2 ^ L) (hL2 : 56 ≤ L) (hd : (d : Int) = max ((L : Int) - 53) (-1074 - e)) (hK : (K : Int) = e + d + 1074) :
    near q L e more = (if 2045 < K then infB else K * 2 ^ 52 + (if 2 ^ (d - 1) < q % 2 ^ d ∨ (q % 2 ^ d = 2 ^ (d - 1) ∧ (more = true ∨ q / 2 ^ d % 2 = 1)) then q / 2 ^ d + 1 else q / 2 ^ d)) ∧
      q / 2 ^ d < 2 ^ 53 ∧ (2 ^ 52 ≤ q / 2 ^ d ∨ K = 0) ∧ 1 ≤ d := by
  have hL58 : L ≤ 58 := by
    apply Decidable.byContradiction
    intro hc
    have h1 : 2 ^ 58 ≤ 2 ^ (L - 1) := Nat.pow_le_pow_right (by decide) (by omega)
    omega
  have hdL : L - 53 ≤ d := by omega
  have hd1 : 1 ≤ d := by omega
  have hm53 : q / 2 ^ d < 2 ^ 53 := by
    apply Nat.div_lt_of_lt_mul
    rw [← Nat.pow_add]
    exact Nat.lt_of_lt_of_le hL.2 (Nat.pow_le_pow_right (by decide) (by omega))
  have hmk : 2 ^ 52 ≤ q / 2 ^ d ∨ K = 0 := by
    by_cases hK0 : K = 0
    · exact .inr hK0
    · left
      have hde : d = L - 53 := by omega
      rw [Nat.le_div_iff_mul_le (Nat.two_pow_pos d), ← Nat.pow_add]
      exact Nat.le_trans (Nat.pow_le_pow_right (by decide) (by omega)) hL.1
  refine ⟨?_, hm53, hmk, hd1⟩
  unfold near
  simp only
  rw [← hd]
  by_cases h63 : 63 < (d : Int)
  · rw [if_pos h63]
    have hK0 : K = 0 := by omega
    have h1 : q < 2 ^ (d - 1) := Nat.lt_of_lt_of_le hq (Nat.pow_le_pow_right (by decide) (by omega))
    have h2 : q < 2 ^ d := Nat.lt_of_lt_of_le h1 (Nat.pow_le_pow_right (by decide) (by omega))
    rw [if_neg (by omega), Nat.mod_eq_of_lt h2, Nat.div_eq_of_lt h2, if_neg (by omega), hK0]
  · rw [if_neg h63, Int.toNat_natCast]
    generalize hm : (if 2 ^ (d - 1) < q % 2 ^ d ∨ (q % 2 ^ d = 2 ^ (d - 1) ∧ (more = true ∨ q / 2 ^ d % 2 = 1)) then q / 2 ^ d + 1 else q / 2 ^ d) = m
    have hmm : m ≤ 2 ^ 53 ∧ (2 ^ 52 ≤ m ∨ K = 0) := by
      rw [← hm]
      split <;> omega
    obtain ⟨hm1, hm2⟩ := hmm
    by_cases hc : m = 2 ^ 53
    · rw [if_pos hc, if_pos hc]
      by_cases hK2 : 2045 < K
      · rw [if_pos hK2, if_pos (by omega)]
      · rw [if_neg hK2]
        by_cases hK3 : K = 2045
        · rw [if_pos (by omega), hc, hK3]; decide
        · rw [if_neg (by omega), if_neg (by omega), show (e + (d : Int) + 1 + 1075).toNat = K + 2 by omega, hc, Nat.mod_self]
          omega
    · rw [if_neg hc, if_neg hc]
      by_cases hK2 : 2045 < K
      · rw [if_pos hK2, if_pos (by omega)]
      · rw [if_neg hK2, if_neg (by omega)]
        by_cases h52 : m < 2 ^ 52
        · rw [if_pos h52, hm2.resolve_left (by omega)]; omega
        · rw [if_neg h52, show (e + (d : Int) + 1075).toNat = K + 1 by omega]
          have : m % 2 ^ 52 = m - 2 ^ 52 := by omega
          rw [this]; omega
/-- the scale: the least float's half is 2 to the minus it -/
@[irreducible] def cP : Nat := 1075
/-- the quotient's rounding is the search's result -/
theorem near_ref {r s q L : Nat} {shift : Int} {more : Bool} (hs : 0 < s) (hq : q = (r * 2 ^ shift.toNat) / (s * 2 ^ (-shift).toNat)) (hm : more = decide (0 < (r * 2 ^ shift.toNat) % (s * 2 ^ (-shift).toNat)))
    (hq58 : q < 2 ^ 58) (hL : 2 ^ (L - 1) ≤ q ∧ q < 2 ^ L) (hL2 : 56 ≤ L) {lo : Nat} (hlo : IsLo (r * 2 ^ cP) s lo) : near q L (-shift) more = refR (r * 2 ^ cP) s lo := by
  obtain ⟨d, hd⟩ : ∃ d : Nat, (d : Int) = max ((L : Int) - 53) (-1074 - (-shift)) := ⟨(max ((L : Int) - 53) (-1074 - (-shift))).toNat, by omega⟩
  obtain ⟨K, hK⟩ : ∃ K : Nat, (K : Int) = -shift + d + 1074 := ⟨(-shift + d + 1074).toNat, by omega⟩
  obtain ⟨h1, h2, h3, h4⟩ := near_big (more := more) hq58 hL hL2 hd hK
  rw [h1]
  generalize hm0 : q / 2 ^ d = m0 at *
  generalize hrest : q % 2 ^ d = rest at *
  have hqd : q = m0 * 2 ^ d + rest := by rw [← hm0, ← hrest]; exact (Nat.div_add_mod' q (2 ^ d)).symm
  have hrl : rest < 2 ^ d := by rw [← hrest]; exact Nat.mod_lt _ (Nat.two_pow_pos d)
  -- the scales
  generalize hQ : 2 ^ shift.toNat = Q at *
  generalize hN : 2 ^ (-shift).toNat = N at *
  have hQ0 : 0 < Q := by rw [← hQ]; exact Nat.two_pow_pos _
  have hN0 : 0 < N := by rw [← hN]; exact Nat.two_pow_pos _
  have hTQ : 2 ^ (K + 1) * Q = 2 ^ d * 2 ^ cP * N := by
    rw [← hQ, ← hN, ← Nat.pow_add, ← Nat.pow_add, ← Nat.pow_add]
    congr 1
    unfold cP
    omega
  have hd2 : 2 ^ d = 2 * 2 ^ (d - 1) := by rw [← Nat.pow_succ']; congr 1; omega
  have hT2 : 2 ^ (K + 1) = 2 * 2 ^ K := by rw [Nat.pow_succ']
  have hB0 : 0 < s * N := Nat.mul_pos hs hN0
  -- Y = q B + rem
  have hY : r * Q = q * (s * N) + (r * Q) % (s * N) := by rw [hq]; exact (Nat.div_add_mod' _ _).symm
  have hrem := Nat.mod_lt (r * Q) hB0
  generalize (r * Q) % (s * N) = rem at *
  generalize hP : 2 ^ cP = P at *
  have hP0 : 0 < P := by rw [← hP]; exact Nat.two_pow_pos _
  clear hP hQ hN
  -- a count of half steps against X
  have key : ∀ c : Nat, (c * 2 ^ K * s) * (2 * Q) = (c * 2 ^ d * (s * N)) * P := fun c => by
    calc (c * 2 ^ K * s) * (2 * Q) = c * s * (2 * 2 ^ K * Q) := by
          rw [show c * 2 ^ K * s = c * s * 2 ^ K by rw [Nat.mul_right_comm], Nat.mul_assoc (c * s), ← Nat.mul_assoc (2 ^ K) 2 Q, Nat.mul_comm (2 ^ K) 2]
      _ = c * s * (2 ^ d * P * N) := by rw [← hT2, hTQ]
      _ = (c * 2 ^ d * (s * N)) * P := by
          rw [show 2 ^ d * P * N = 2 ^ d * N * P by rw [Nat.mul_right_comm], ← Nat.mul_assoc (c * s), show c * s * (2 ^ d * N) = c * 2 ^ d * (s * N) by rw [Nat.mul_mul_mul_comm]]
  have keyX : (r * P) * (2 * Q) = 2 * (r * Q) * P := by
    rw [show (r * P) * (2 * Q) = r * P * 2 * Q by rw [Nat.mul_assoc (r * P) 2 Q], Nat.mul_right_comm r P 2, show 2 * (r * Q) * P = r * 2 * Q * P by rw [← Nat.mul_assoc, Nat.mul_comm 2 r], Nat.mul_right_comm (r * 2) P Q]
  have cmp_lt : ∀ c : Nat, c * 2 ^ K * s < r * P ↔ c * 2 ^ d * (s * N) < 2 * (r * Q) := fun c => by
    rw [← Nat.mul_lt_mul_right (a := 2 * Q) (by omega), key, keyX, Nat.mul_lt_mul_right hP0]
  have cmp_eq : ∀ c : Nat, c * 2 ^ K * s = r * P ↔ c * 2 ^ d * (s * N) = 2 * (r * Q) := fun c => by
    rw [← Nat.mul_left_inj (a := 2 * Q) (by omega), key, keyX, Nat.mul_left_inj (by omega)]
  have cmp_le : ∀ c : Nat, c * 2 ^ K * s ≤ r * P ↔ c * 2 ^ d * (s * N) ≤ 2 * (r * Q) := fun c => by
    rw [Nat.le_iff_lt_or_eq, cmp_lt, cmp_eq, ← Nat.le_iff_lt_or_eq]
  -- whole steps
  have hle : 2 * m0 * 2 ^ K * s ≤ r * P := by
    rw [cmp_le, hY, hqd]
    have : 2 * m0 * 2 ^ d * (s * N) = 2 * (m0 * 2 ^ d * (s * N)) := by rw [Nat.mul_assoc 2 m0, Nat.mul_assoc 2]
    rw [this, Nat.add_mul]
    omega
  have hlt : r * P < 2 * (m0 + 1) * 2 ^ K * s := by
    apply Nat.lt_of_not_le
    rw [cmp_le, hY, hqd]
    have e1 : 2 * (m0 + 1) * 2 ^ d * (s * N) = 2 * (m0 * 2 ^ d * (s * N)) + 2 * (2 ^ d * (s * N)) := by
      rw [Nat.mul_assoc 2 (m0 + 1), Nat.mul_assoc 2 ((m0 + 1) * 2 ^ d), Nat.add_mul m0 1, Nat.one_mul, Nat.add_mul, Nat.mul_add]
    have e2 : (rest + 1) * (s * N) ≤ 2 ^ d * (s * N) := Nat.mul_le_mul_right _ hrl
    rw [e1, Nat.add_mul]
    rw [Nat.succ_mul] at e2
    omega
  -- half a step
  have hhalf : (2 * m0 + 1) * 2 ^ d * (s * N) = 2 * ((m0 * 2 ^ d + 2 ^ (d - 1)) * (s * N)) := by
    have e : (2 * m0 + 1) * 2 ^ d = 2 * (m0 * 2 ^ d + 2 ^ (d - 1)) := by rw [Nat.add_mul, Nat.one_mul, Nat.mul_add, ← Nat.mul_assoc, ← hd2]
    rw [e, Nat.mul_assoc]
  have hup : ((2 * m0 + 1) * 2 ^ K * s < r * P ∨ ((2 * m0 + 1) * 2 ^ K * s = r * P ∧ m0 % 2 = 1)) ↔ (2 ^ (d - 1) < rest ∨ (rest = 2 ^ (d - 1) ∧ (more = true ∨ m0 % 2 = 1))) := by
    rw [cmp_lt, cmp_eq, hhalf, hm, decide_eq_true_eq, hY, hqd]
    generalize hh : 2 ^ (d - 1) = half at *
    have f1 : (m0 * 2 ^ d + half) * (s * N) = m0 * 2 ^ d * (s * N) + half * (s * N) := Nat.add_mul ..
    have f2 : (m0 * 2 ^ d + rest) * (s * N) = m0 * 2 ^ d * (s * N) + rest * (s * N) := Nat.add_mul ..
    rw [f1, f2]
    rcases Nat.lt_trichotomy half rest with hc | hc | hc
    · have : (half + 1) * (s * N) ≤ rest * (s * N) := Nat.mul_le_mul_right _ hc
      rw [Nat.succ_mul] at this
      exact ⟨fun _ => .inl hc, fun _ => .inl (by omega)⟩
    · subst hc
      constructor
      · rintro (h | ⟨h, h'⟩)
        · exact .inr ⟨rfl, .inl (by omega)⟩
        · exact .inr ⟨rfl, .inr h'⟩
      · rintro (h | ⟨_, h | h⟩)
        · omega
        · exact .inl (by omega)
        · by_cases hr : 0 < rem
          · exact .inl (by omega)
          · exact .inr ⟨by omega, h⟩
    · have : (rest + 1) * (s * N) ≤ half * (s * N) := Nat.mul_le_mul_right _ hc
      rw [Nat.succ_mul] at this
      constructor
      · rintro (h | ⟨h, _⟩) <;> omega
      · rintro (h | ⟨h, _⟩) <;> omega
  by_cases hK2 : 2045 < K
  · rw [if_pos hK2]
    have hm52 := h3.resolve_right (by omega)
    -- all floats are below
    obtain ⟨E, hE⟩ : ∃ E, E = 2045 := ⟨_, rfl⟩
    have hbig : ∀ b, b < infB → hB b * s < r * P := fun b hb => by
      obtain ⟨g1, g2, g3⟩ := bits_of b
      have hkb : kB b ≤ E := by rw [hE]; unfold kB infB at *; omega
      refine Nat.lt_of_lt_of_le ?_ hle
      apply Nat.mul_lt_mul_of_pos_right _ hs
      unfold hB
      have a1 : (2 * mB b + 1) * 2 ^ kB b ≤ (2 * mB b + 1) * 2 ^ E := Nat.mul_le_mul_left _ (Nat.pow_le_pow_right (by decide) hkb)
      have a2 : (2 * mB b + 1) * 2 ^ E < 2 ^ 54 * 2 ^ E := Nat.mul_lt_mul_of_pos_right (by omega) (Nat.two_pow_pos _)
      have a3 : 2 ^ 53 * 2 ^ (E + 1) ≤ 2 * m0 * 2 ^ K := Nat.mul_le_mul (by omega) (Nat.pow_le_pow_right (by decide) (by omega))
      have a4 : 2 ^ 54 * 2 ^ E = 2 ^ 53 * 2 ^ (E + 1) := by rw [← Nat.pow_add, ← Nat.pow_add]; congr 1; omega
      omega
    have hmax : IsLo (r * P) s (infB - 1) := by
      have hb := hbig (infB - 1) (by decide)
      refine ⟨by decide, Nat.le_trans ?_ (Nat.le_of_lt hb), .inl (by decide)⟩
      apply Nat.mul_le_mul_right
      unfold vB hB
      exact Nat.mul_le_mul_right _ (by omega)
    rw [hlo.uniq hmax]
    unfold refR
    rw [if_pos (.inl (hbig _ (by decide)))]
    decide
  · rw [if_neg hK2]
    obtain ⟨p1, p2⟩ := parts_of h2 h3
    have hl : IsLo (r * P) s (K * 2 ^ 52 + m0) := by
      refine ⟨by unfold infB; have := Nat.mul_le_mul_right (2 ^ 52) (show K ≤ 2045 by omega); omega, ?_, .inr ?_⟩
      · unfold vB; rw [p1, p2]; exact hle
      · rw [vB_succ]
        unfold vB
        rw [p1, p2, ← Nat.add_mul, show 2 * m0 + 2 = 2 * (m0 + 1) by omega]
        exact hlt
    rw [hlo.uniq hl]
    unfold refR hB
    rw [p1, p2]
    have hodd : (K * 2 ^ 52 + m0) % 2 = m0 % 2 := by omega
    rw [hodd]
    by_cases hc : (2 * m0 + 1) * 2 ^ K * s < r * P ∨ ((2 * m0 + 1) * 2 ^ K * s = r * P ∧ m0 % 2 = 1)
    · rw [if_pos hc, if_pos (hup.1 hc)]; omega
    · rw [if_neg hc, if_neg fun h => hc (hup.2 h)]
end Go.Nm
end
section
namespace Go.Nm

/-- the bits of a number -/
def bl (n : Nat) : Nat := if n = 0 then 0 else n.log2 + 1
theorem bl_pos {n : Nat} (h : 0 < n) : 2 ^ (bl n - 1) ≤ n ∧ n < 2 ^ bl n ∧ 1 ≤ bl n := by
  unfold bl
  rw [if_neg (by omega)]
  exact ⟨Nat.log2_self_le (by omega), Nat.lt_log2_self, by omega⟩
theorem bl_unique {n L : Nat} (h1 : 2 ^ (L - 1) ≤ n) (h2 : n < 2 ^ L) (h3 : 1 ≤ L) : bl n = L := by
  have h0 : 0 < n := Nat.lt_of_lt_of_le (Nat.two_pow_pos _) h1
  obtain ⟨g1, g2, g3⟩ := bl_pos h0
  have a : ¬ bl n < L := fun h => by
    have := Nat.pow_le_pow_right (show 0 < 2 by decide) (show bl n ≤ L - 1 by omega)
    omega
  have b : ¬ L < bl n := fun h => by
    have := Nat.pow_le_pow_right (show 0 < 2 by decide) (show L ≤ bl n - 1 by omega)
    omega
  omega
/-- what the program makes of a quotient of two whole numbers -/
def shiftN (r s : Nat) : Int := 56 - ((bl r : Int) - (bl s : Int))
def quoN (r s : Nat) : Nat := (r * 2 ^ (shiftN r s).toNat) / (s * 2 ^ (-(shiftN r s)).toNat)
def remN (r s : Nat) : Nat := (r * 2 ^ (shiftN r s).toNat) % (s * 2 ^ (-(shiftN r s)).toNat)
theorem quoN_bd {r s : Nat} (hr : 0 < r) (hs : 0 < s) : 2 ^ 55 ≤ quoN r s ∧ quoN r s < 2 ^ 57 := by
  obtain ⟨r1, r2, r3⟩ := bl_pos hr
  obtain ⟨s1, s2, s3⟩ := bl_pos hs
  unfold quoN
  have hsh : shiftN r s = 56 - ((bl r : Int) - (bl s : Int)) := rfl
  generalize shiftN r s = sh at hsh ⊢
  have e1 : (2 : Nat) ^ (bl r - 1) * 2 ^ sh.toNat = 2 ^ 55 * (2 ^ bl s * 2 ^ (-sh).toNat) := by
    rw [← Nat.pow_add, ← Nat.pow_add, ← Nat.pow_add]; congr 1; omega
  have e2 : (2 : Nat) ^ bl r * 2 ^ sh.toNat = 2 ^ 57 * (2 ^ (bl s - 1) * 2 ^ (-sh).toNat) := by
    rw [← Nat.pow_add, ← Nat.pow_add, ← Nat.pow_add]; congr 1; omega
  have hN := Nat.two_pow_pos (-sh).toNat
  have hB : 0 < s * 2 ^ (-sh).toNat := Nat.mul_pos hs hN
  constructor
  · rw [Nat.le_div_iff_mul_le hB]
    refine Nat.le_trans (Nat.mul_le_mul_left _ (Nat.mul_le_mul_right _ (Nat.le_of_lt s2))) ?_
    rw [← e1]
    exact Nat.mul_le_mul_right _ r1
  · apply Nat.div_lt_of_lt_mul
    rw [Nat.mul_comm (s * 2 ^ (-sh).toNat) (2 ^ 57)]
    refine Nat.lt_of_lt_of_le ((Nat.mul_lt_mul_right (Nat.two_pow_pos _)).2 r2) ?_
    rw [e2]
    exact Nat.mul_le_mul_left _ (Nat.mul_le_mul_right _ s1)
theorem near_quo {r s lo : Nat} (hr : 0 < r) (hs : 0 < s) (hlo : IsLo (r * 2 ^ cP) s lo) : near (quoN r s) (bl (quoN r s)) (-(shiftN r s)) (decide (0 < remN r s)) = refR (r * 2 ^ cP) s lo := by
  obtain ⟨h1, h2⟩ := quoN_bd hr hs
  obtain ⟨g1, g2, g3⟩ := bl_pos (Nat.lt_of_lt_of_le (by decide) h1)
  refine near_ref hs rfl rfl (Nat.lt_of_lt_of_le h2 (by decide)) ⟨g1, g2⟩ ?_ hlo
  apply Decidable.byContradiction
  intro hc
  have := Nat.pow_le_pow_right (show 0 < 2 by decide) (show bl (quoN r s) ≤ 55 by omega)
  omega

/-! ### Very small and very great -/
theorem pow_cmp {n m : Nat} (h : 2 ^ n ≤ 10 ^ m) (k : Nat) : 2 ^ (n * k) ≤ 10 ^ (m * k) := by
  rw [Nat.pow_mul, Nat.pow_mul]; exact Nat.pow_le_pow_left h k
theorem ten_low {t k : Nat} (hk : k = 33) (ht : 10 * k ≤ t) : 2 ^ cP ≤ 10 ^ t :=
  Nat.le_trans (Nat.pow_le_pow_right (by decide) (show cP ≤ 33 * k by unfold cP; omega)) (Nat.le_trans (pow_cmp (n := 33) (m := 10) (by decide) k) (Nat.pow_le_pow_right (by decide) ht))
theorem ten_high {t k : Nat} (hk : k = 5) (ht : 62 * k ≤ t) {p : Nat} (hp : p ≤ 1024) : 2 ^ p ≤ 10 ^ t :=
  Nat.le_trans (Nat.pow_le_pow_right (by decide) (show p ≤ 205 * k by omega)) (Nat.le_trans (pow_cmp (n := 205) (m := 62) (by decide) k) (Nat.pow_le_pow_right (by decide) ht))
/-- below half the least float -/
theorem refR_low {X B lo : Nat} (h : X < B) (hlo : IsLo X B lo) : refR X B lo = 0 := by
  have h0 : IsLo X B 0 := ⟨by decide, by unfold vB mB; simp, .inr (by
    have : vB 1 = 2 := by decide
    rw [this]; omega)⟩
  rw [hlo.uniq h0]
  unfold refR
  have : hB 0 = 1 := by decide
  rw [this, Nat.one_mul, if_neg (by omega)]
/-- above all floats -/
theorem refR_high {X B lo E : Nat} (hE : E = 2045) (hB0 : 0 < B) (h : 2 ^ 54 * 2 ^ E * B ≤ X) (hlo : IsLo X B lo) : refR X B lo = infB := by
  have hbig : ∀ b, b < infB → hB b * B < X := fun b hb => by
    obtain ⟨g1, g2, g3⟩ := bits_of b
    have hkb : kB b ≤ E := by rw [hE]; unfold kB infB at *; omega
    refine Nat.lt_of_lt_of_le (Nat.mul_lt_mul_of_pos_right ?_ hB0) h
    unfold hB
    have a1 : (2 * mB b + 1) * 2 ^ kB b ≤ (2 * mB b + 1) * 2 ^ E := Nat.mul_le_mul_left _ (Nat.pow_le_pow_right (by decide) hkb)
    have a2 : (2 * mB b + 1) * 2 ^ E < 2 ^ 54 * 2 ^ E := Nat.mul_lt_mul_of_pos_right (by omega) (Nat.two_pow_pos _)
    omega
  have hmax : IsLo X B (infB - 1) := by
    have hb := hbig (infB - 1) (by decide)
    refine ⟨by decide, Nat.le_trans ?_ (Nat.le_of_lt hb), .inl (by decide)⟩
    apply Nat.mul_le_mul_right
    unfold vB hB
    exact Nat.mul_le_mul_right _ (by omega)
  rw [hlo.uniq hmax]
  unfold refR
  rw [if_pos (.inl (hbig _ (by decide)))]
  decide

/-! ### Digits -/
def numL : List UInt8 → Nat → Nat
  | [], n => n
  | c :: l, n => numL l (10 * n + (c.toNat - 48))
theorem numL_snoc : ∀ (l : List UInt8) (c : UInt8) (n : Nat), numL (l ++ [c]) n = 10 * numL l n + (c.toNat - 48)
  | [], _, _ => rfl
  | _ :: l, c, _ => numL_snoc l c _
theorem numL_lt : ∀ (l : List UInt8) (n : Nat), (∀ c ∈ l, c.toNat ≤ 57) → numL l n < (n + 1) * 10 ^ l.length
  | [], n, _ => by simp [numL]
  | d :: l, n, h => by
    have h1 := numL_lt l (10 * n + (d.toNat - 48)) fun c hc => h c (List.mem_cons_of_mem _ hc)
    have h2 := h d (List.mem_cons_self ..)
    rw [numL, List.length_cons, Nat.pow_succ]
    have : (10 * n + (d.toNat - 48) + 1) * 10 ^ l.length ≤ (10 * (n + 1)) * 10 ^ l.length := Nat.mul_le_mul_right _ (by omega)
    have e : (n + 1) * (10 ^ l.length * 10) = (10 * (n + 1)) * 10 ^ l.length := by rw [Nat.mul_comm (10 ^ l.length) 10, ← Nat.mul_assoc, Nat.mul_comm (n + 1) 10]
    omega
theorem numL_ge : ∀ (l : List UInt8) (n : Nat), n * 10 ^ l.length ≤ numL l n
  | [], n => by simp [numL]
  | d :: l, n => by
    have h1 := numL_ge l (10 * n + (d.toNat - 48))
    rw [numL, List.length_cons, Nat.pow_succ]
    have e : n * (10 ^ l.length * 10) = (10 * n) * 10 ^ l.length := by rw [Nat.mul_comm (10 ^ l.length) 10, ← Nat.mul_assoc, Nat.mul_comm n 10]
    rw [e]
    exact Nat.le_trans (Nat.mul_le_mul_right _ (by omega)) h1
/-- the digits without the noughts ahead -/
def trimZ : List UInt8 → List UInt8
  | [] => []
  | c :: l => if c = 48 then trimZ l else c :: l
theorem trimZ_mem : ∀ {l : List UInt8} {c : UInt8}, c ∈ trimZ l → c ∈ l
  | [], _, h => h
  | d :: l, c, h => by
    rw [trimZ] at h
    split at h
    · exact List.mem_cons_of_mem _ (trimZ_mem h)
    · exact h
theorem trimZ_head {l : List UInt8} {c : UInt8} {r : List UInt8} (h : trimZ l = c :: r) : c ≠ 48 := by
  induction l with
  | nil => cases h
  | cons d l ih =>
    rw [trimZ] at h
    split at h
    · exact ih h
    · rename_i hd; cases h; exact hd
def allD (s : List UInt8) : Prop := ∀ c ∈ s, 48 ≤ c.toNat ∧ c.toNat ≤ 57
theorem trim_pos {l : List UInt8} (hd : allD l) (h : trimZ l ≠ []) : 10 ^ ((trimZ l).length - 1) ≤ numL (trimZ l) 0 := by
  rcases ht : trimZ l with _ | ⟨c, r⟩
  · exact absurd ht h
  have hc := trimZ_head ht
  have hcl := (hd c (trimZ_mem (by rw [ht]; exact List.mem_cons_self ..))).1
  have hcn : 49 ≤ c.toNat := by
    have : c.toNat ≠ 48 := fun e => hc (UInt8.toNat_inj.1 e)
    omega
  have := numL_ge r (10 * 0 + (c.toNat - 48))
  rw [numL, List.length_cons, Nat.add_sub_cancel]
  refine Nat.le_trans ?_ this
  have h1 : 1 * 10 ^ r.length ≤ (10 * 0 + (c.toNat - 48)) * 10 ^ r.length := Nat.mul_le_mul_right _ (by omega)
  omega

/-- what the program makes of digits and an exponent -/
def progBits (ds : List UInt8) (x : Int) : Nat :=
  if ds = [] ∨ (ds.length : Int) + x < -330 then 0 else if 310 < (ds.length : Int) + x then infB
  else near (quoN (numL ds 0 * 10 ^ x.toNat) (10 ^ (-x).toNat)) (bl (quoN (numL ds 0 * 10 ^ x.toNat) (10 ^ (-x).toNat))) (-(shiftN (numL ds 0 * 10 ^ x.toNat) (10 ^ (-x).toNat))) (decide (0 < remN (numL ds 0 * 10 ^ x.toNat) (10 ^ (-x).toNat)))
/-- the law: where the reference searches, it finds what the program rounds; where it does not, the same -/
theorem bits_law {l : List UInt8} (hd : allD l) (x : Int) :
    (trimZ l = [] → progBits (trimZ l) x = 0) ∧ (((trimZ l).length : Int) + x < -340 → progBits (trimZ l) x = 0) ∧ (trimZ l ≠ [] → 320 < ((trimZ l).length : Int) + x → progBits (trimZ l) x = infB) ∧
    (trimZ l ≠ [] → ¬ ((trimZ l).length : Int) + x < -340 → ¬ 320 < ((trimZ l).length : Int) + x → ∀ lo, IsLo (numL (trimZ l) 0 * 10 ^ x.toNat * 2 ^ cP) (10 ^ (-x).toNat) lo → progBits (trimZ l) x = refR (numL (trimZ l) 0 * 10 ^ x.toNat * 2 ^ cP) (10 ^ (-x).toNat) lo) := by
  refine ⟨fun h => ?_, fun h => ?_, fun h1 h2 => ?_, fun h1 h2 h3 lo hlo => ?_⟩
  · unfold progBits; rw [if_pos (.inl h)]
  · unfold progBits; rw [if_pos (.inr (by omega))]
  · unfold progBits; rw [if_neg (by rintro (h | h); exact h1 h; omega), if_pos (by omega)]
  · have hp := trim_pos hd h1
    have hlt := numL_lt (trimZ l) 0 fun c hc => (hd c (trimZ_mem hc)).2
    rw [Nat.zero_add, Nat.one_mul] at hlt
    have hD0 : 0 < numL (trimZ l) 0 := Nat.lt_of_lt_of_le (Nat.pow_pos (by decide)) hp
    obtain ⟨D, hDe⟩ : ∃ D, D = numL (trimZ l) 0 := ⟨_, rfl⟩
    rw [← hDe] at hp hlt hD0
    have hl1 : 1 ≤ (trimZ l).length := List.length_pos_iff.2 h1
    by_cases hlow : ((trimZ l).length : Int) + x < -330
    · have : progBits (trimZ l) x = 0 := by unfold progBits; rw [if_pos (.inr hlow)]
      rw [this]
      refine (refR_low ?_ hlo).symm
      rw [← hDe]
      rw [show x.toNat = 0 by omega, Nat.pow_zero, Nat.mul_one]
      have hexp : (10 : Nat) ^ (-x).toNat = 10 ^ (trimZ l).length * 10 ^ ((-x).toNat - (trimZ l).length) := by rw [← Nat.pow_add]; congr 1; omega
      rw [hexp]
      exact Nat.lt_of_lt_of_le (Nat.mul_lt_mul_of_pos_right hlt (Nat.two_pow_pos _)) (Nat.mul_le_mul_left _ (ten_low (k := 33) rfl (by omega)))
    by_cases hhigh : 310 < ((trimZ l).length : Int) + x
    · have : progBits (trimZ l) x = infB := by
        unfold progBits; rw [if_neg (by rintro (h | h); exact h1 h; exact hlow h), if_pos hhigh]
      rw [this]
      obtain ⟨E, hE⟩ : ∃ E, E = 2045 := ⟨_, rfl⟩
      refine (refR_high hE (Nat.pow_pos (by decide)) ?_ hlo).symm
      rw [← hDe]
      have hpw : 2 ^ 54 * 2 ^ E ≤ 2 ^ (E - 1021) * 2 ^ cP := by
        rw [← Nat.pow_add, ← Nat.pow_add]
        exact Nat.pow_le_pow_right (by decide) (by unfold cP; omega)
      have hten : 2 ^ (E - 1021) * 10 ^ (-x).toNat ≤ D * 10 ^ x.toNat := by
        have h10 : 2 ^ (E - 1021) ≤ 10 ^ (((trimZ l).length : Int) + x - 1).toNat := ten_high (k := 5) rfl (by omega) (by omega)
        refine Nat.le_trans (Nat.mul_le_mul_right _ h10) ?_
        rw [← Nat.pow_add]
        refine Nat.le_trans ?_ (Nat.mul_le_mul_right _ hp)
        rw [← Nat.pow_add]
        exact Nat.pow_le_pow_right (by decide) (by omega)
      calc 2 ^ 54 * 2 ^ E * 10 ^ (-x).toNat ≤ 2 ^ (E - 1021) * 2 ^ cP * 10 ^ (-x).toNat := Nat.mul_le_mul_right _ hpw
        _ = 2 ^ (E - 1021) * 10 ^ (-x).toNat * 2 ^ cP := Nat.mul_right_comm ..
        _ ≤ D * 10 ^ x.toNat * 2 ^ cP := Nat.mul_le_mul_right _ hten
    · have hpb : progBits (trimZ l) x = near (quoN (numL (trimZ l) 0 * 10 ^ x.toNat) (10 ^ (-x).toNat)) (bl (quoN (numL (trimZ l) 0 * 10 ^ x.toNat) (10 ^ (-x).toNat))) (-(shiftN (numL (trimZ l) 0 * 10 ^ x.toNat) (10 ^ (-x).toNat))) (decide (0 < remN (numL (trimZ l) 0 * 10 ^ x.toNat) (10 ^ (-x).toNat))) := by
        unfold progBits; rw [if_neg (by rintro (h | h); exact h1 h; exact hlow h), if_neg hhigh]
      rw [hpb]
      exact near_quo (Nat.mul_pos (hDe ▸ hD0) (Nat.pow_pos (by decide))) (Nat.pow_pos (by decide)) hlo
end Go.Nm
end
section
namespace Go.Nm

def vL (b : Nat) : List Nat → Nat
  | [] => 0
  | x :: l => x + b * vL b l
/-- digits below the base, the last one not nought -/
structure Nrm (b : Nat) (l : List Nat) : Prop where
  lt : ∀ x ∈ l, x < b
  top : ∀ h : l ≠ [], l.getLast h ≠ 0
theorem vL_app (b : Nat) : ∀ l m : List Nat, vL b (l ++ m) = vL b l + b ^ l.length * vL b m
  | [], m => by simp [vL]
  | x :: l, m => by
    rw [List.cons_append, vL, vL, vL_app b l m, List.length_cons, Nat.pow_succ, Nat.mul_add, Nat.mul_comm (b ^ l.length) b, Nat.mul_assoc, Nat.add_assoc]
theorem vL_lt {b : Nat} : ∀ {l : List Nat}, (∀ x ∈ l, x < b) → vL b l < b ^ l.length
  | [], _ => by simp [vL]
  | x :: l, h => by
    have h1 := vL_lt (l := l) fun y hy => h y (List.mem_cons_of_mem _ hy)
    have h2 := h x (List.mem_cons_self ..)
    rw [vL, List.length_cons, Nat.pow_succ]
    have : b * (vL b l + 1) ≤ b * b ^ l.length := Nat.mul_le_mul_left _ h1
    rw [Nat.mul_add, Nat.mul_one] at this
    rw [Nat.mul_comm (b ^ l.length) b]
    omega
theorem vL_snoc (b : Nat) (l : List Nat) (x : Nat) : vL b (l ++ [x]) = vL b l + b ^ l.length * x := by
  rw [vL_app]; simp [vL]
theorem Nrm.nil (b : Nat) : Nrm b [] := ⟨by simp, fun h => absurd rfl h⟩
theorem Nrm.ge {b : Nat} {l : List Nat} (h : Nrm b l) (h0 : l ≠ []) : b ^ (l.length - 1) ≤ vL b l := by
  have e := (List.dropLast_concat_getLast h0).symm
  have ht := h.top h0
  generalize l.getLast h0 = x at e ht
  rw [e, vL_snoc, List.length_append, List.length_singleton, Nat.add_sub_cancel]
  have : b ^ l.dropLast.length * 1 ≤ b ^ l.dropLast.length * x := Nat.mul_le_mul_left _ (by omega)
  omega
theorem Nrm.zero {b : Nat} (hb : 0 < b) {l : List Nat} (h : Nrm b l) : vL b l = 0 ↔ l = [] := by
  constructor
  · intro h0
    apply Decidable.byContradiction
    intro hne
    have := h.ge hne
    have := Nat.pow_pos hb (n := l.length - 1)
    omega
  · rintro rfl; rfl
theorem Nrm.len_lt {b : Nat} (hb : 0 < b) {l m : List Nat} (h : Nrm b l) (k : Nrm b m) (hl : l.length < m.length) : vL b l < vL b m := by
  have h1 := vL_lt h.lt
  have h2 := k.ge (by intro e; subst e; simp at hl)
  have := Nat.pow_le_pow_right hb (show l.length ≤ m.length - 1 by omega)
  omega
/-- from the top down: alike above place i -/
def cmpV (a b : Nat) : Int := if a < b then -1 else if b < a then 1 else 0
theorem cmp_at {b : Nat} {l m : List Nat} (hl : ∀ x ∈ l, x < b) (_ : ∀ x ∈ m, x < b) {i : Nat} (hi : i < l.length) (hi2 : i < m.length) (he : l.drop (i + 1) = m.drop (i + 1)) (hn : l[i] < m[i]) : vL b l < vL b m := by
  have e1 : l = l.take i ++ ([l[i]] ++ l.drop (i + 1)) := by rw [List.singleton_append, ← List.drop_eq_getElem_cons hi, List.take_append_drop]
  have e2 : m = m.take i ++ ([m[i]] ++ m.drop (i + 1)) := by rw [List.singleton_append, ← List.drop_eq_getElem_cons hi2, List.take_append_drop]
  have l1 : (l.take i).length = i := by rw [List.length_take]; omega
  have l2 : (m.take i).length = i := by rw [List.length_take]; omega
  have b1 := vL_lt (b := b) (l := l.take i) fun x hx => hl x (List.mem_of_mem_take hx)
  rw [l1] at b1
  rw [e1, e2, vL_app, vL_app, vL_app, vL_app, l1, l2, he]
  simp only [vL, Nat.mul_zero, Nat.add_zero, List.length_singleton, Nat.pow_one]
  generalize l[i] = x at *
  generalize m[i] = y at *
  generalize vL b (m.drop (i + 1)) = r
  have : b ^ i * (x + b * r + 1) ≤ b ^ i * (y + b * r) := Nat.mul_le_mul_left _ (by omega)
  rw [Nat.mul_add, Nat.mul_one] at this
  omega
/-- noughts at the top taken off -/
def trimN (l : List Nat) : List Nat := (l.reverse.dropWhile (· == 0)).reverse
theorem trimN_snoc (l : List Nat) (x : Nat) : trimN (l ++ [x]) = if x = 0 then trimN l else l ++ [x] := by
  unfold trimN
  rw [List.reverse_append, List.reverse_singleton, List.singleton_append, List.dropWhile_cons]
  by_cases h : x = 0
  · rw [if_pos (by simp [h]), if_pos h]
  · rw [if_neg (by simp [h]), if_neg h]; simp
theorem trimN_ind {P : List Nat → Prop} (h0 : P []) (h1 : ∀ l x, P l → P (l ++ [x])) : ∀ l, P l := fun l => by
  generalize hn : l.length = n
  induction n generalizing l with
  | zero => rw [List.length_eq_zero_iff.1 hn]; exact h0
  | succ n ih =>
    have hne : l ≠ [] := by intro e; subst e; simp at hn
    rw [← List.dropLast_concat_getLast hne]
    exact h1 _ _ (ih _ (by rw [List.length_dropLast]; omega))
theorem trimN_val (b : Nat) (l : List Nat) : vL b (trimN l) = vL b l := by
  refine trimN_ind (P := fun l => vL b (trimN l) = vL b l) rfl (fun l x ih => ?_) l
  rw [trimN_snoc]
  split
  · rename_i h; rw [h, vL_snoc, ih]; simp
  · rfl
theorem trimN_take (l : List Nat) : ∃ n, n ≤ l.length ∧ trimN l = l.take n := by
  refine trimN_ind (P := fun l => ∃ n, n ≤ l.length ∧ trimN l = l.take n) ⟨0, by simp, rfl⟩ (fun l x ⟨n, h1, h2⟩ => ?_) l
  rw [trimN_snoc]
  split
  · exact ⟨n, by simp; omega, by rw [h2, List.take_append_of_le_length h1]⟩
  · exact ⟨(l ++ [x]).length, Nat.le_refl _, by rw [List.take_length]⟩
theorem trimN_nrm {b : Nat} {l : List Nat} (h : ∀ x ∈ l, x < b) : Nrm b (trimN l) := by
  refine ⟨fun x hx => ?_, ?_⟩
  · obtain ⟨n, _, e⟩ := trimN_take l
    rw [e] at hx
    exact h x (List.mem_of_mem_take hx)
  · clear h
    refine trimN_ind (P := fun l => ∀ h : trimN l ≠ [], (trimN l).getLast h ≠ 0) (fun h => absurd rfl h) (fun l x ih => ?_) l
    intro h
    by_cases hx : x = 0
    · have e : trimN (l ++ [x]) = trimN l := by rw [trimN_snoc, if_pos hx]
      simp only [e] at h ⊢
      exact ih h
    · have e : trimN (l ++ [x]) = l ++ [x] := by rw [trimN_snoc, if_neg hx]
      simp only [e]
      simpa using hx
/-- numbers in rows are told apart -/
theorem Nrm.uniq {b : Nat} (hb : 0 < b) {l m : List Nat} (h : Nrm b l) (k : Nrm b m) (he : vL b l = vL b m) : l = m := by
  have hlen : l.length = m.length := by
    rcases Nat.lt_trichotomy l.length m.length with hc | hc | hc
    · have := h.len_lt hb k hc; omega
    · exact hc
    · have := k.len_lt hb h hc; omega
  have go : ∀ (l m : List Nat), (∀ x ∈ l, x < b) → (∀ x ∈ m, x < b) → l.length = m.length → vL b l = vL b m → l = m := by
    intro l
    induction l with
    | nil => intro m _ _ hl _; exact (List.length_eq_zero_iff.1 hl.symm).symm
    | cons x l ih =>
      intro m h1 h2 hl hv
      rcases m with _ | ⟨y, m⟩
      · simp at hl
      · have hx := h1 x (List.mem_cons_self ..)
        have hy := h2 y (List.mem_cons_self ..)
        rw [vL, vL] at hv
        have e1 : (x + b * vL b l) % b = x := by rw [Nat.add_mul_mod_self_left, Nat.mod_eq_of_lt hx]
        have e2 : (y + b * vL b m) % b = y := by rw [Nat.add_mul_mod_self_left, Nat.mod_eq_of_lt hy]
        have hxy : x = y := by rw [← e1, ← e2, hv]
        subst hxy
        have : vL b l = vL b m := Nat.eq_of_mul_eq_mul_left hb (by omega)
        rw [ih m (fun z hz => h1 z (List.mem_cons_of_mem _ hz)) (fun z hz => h2 z (List.mem_cons_of_mem _ hz)) (by simpa using hl) this]
  exact go l m h.lt k.lt hlen he

/-! ### A row times a small number, and a carry -/
/-- digits of l * m + c: the row and what is carried on -/
def mulR (b m : Nat) : List Nat → Nat → List Nat × Nat
  | [], c => ([], c)
  | x :: l, c => ((x * m + c) % b :: (mulR b m l ((x * m + c) / b)).1, (mulR b m l ((x * m + c) / b)).2)
theorem mulR_len (b m : Nat) : ∀ l c, (mulR b m l c).1.length = l.length
  | [], _ => rfl
  | x :: l, c => by rw [mulR, List.length_cons, mulR_len b m l, List.length_cons]
theorem mulR_val {b : Nat} (hb : 0 < b) (m : Nat) : ∀ l c, vL b (mulR b m l c).1 + b ^ l.length * (mulR b m l c).2 = vL b l * m + c
  | [], c => by simp [mulR, vL]
  | x :: l, c => by
    have ih := mulR_val hb m l ((x * m + c) / b)
    rw [mulR, vL, vL, List.length_cons, Nat.pow_succ]
    have hd := Nat.div_add_mod (x * m + c) b
    generalize (mulR b m l ((x * m + c) / b)).2 = k at *
    generalize vL b (mulR b m l ((x * m + c) / b)).1 = v at *
    generalize (x * m + c) / b = q at *
    generalize (x * m + c) % b = r at *
    rw [Nat.add_mul, Nat.mul_assoc b (vL b l) m, show vL b l * m = v + b ^ l.length * k - q by omega]
    have hq : q ≤ v + b ^ l.length * k := by omega
    have e1 : b * (v + b ^ l.length * k - q) = b * v + b ^ l.length * b * k - b * q := by
      rw [Nat.mul_sub, Nat.mul_add, Nat.mul_comm (b ^ l.length) b, Nat.mul_assoc b]
    have e2 : b * q ≤ b * v + b ^ l.length * b * k := by
      have := Nat.mul_le_mul_left b hq
      rw [Nat.mul_add, ← Nat.mul_assoc b (b ^ l.length), Nat.mul_comm b (b ^ l.length)] at this
      exact this
    rw [e1]
    omega
theorem mulR_lt {b : Nat} (hb : 0 < b) (m : Nat) : ∀ l c, ∀ x ∈ (mulR b m l c).1, x < b
  | [], c => by simp [mulR]
  | y :: l, c => by
    intro x hx
    rw [mulR] at hx
    rcases List.mem_cons.1 hx with rfl | hx
    · exact Nat.mod_lt _ hb
    · exact mulR_lt hb m l _ x hx
theorem mulR_carry {b m : Nat} (hm : m ≤ b) : ∀ (l : List Nat) (c : Nat), (∀ x ∈ l, x < b) → c < b → (mulR b m l c).2 < b
  | [], c, _, hc => hc
  | x :: l, c, h, hc => by
    rw [mulR]
    have hx := h x (List.mem_cons_self ..)
    refine mulR_carry hm l _ (fun y hy => h y (List.mem_cons_of_mem _ hy)) ?_
    apply Nat.div_lt_of_lt_mul
    have h1 : x * m ≤ (b - 1) * b := Nat.mul_le_mul (by omega) hm
    rw [Nat.sub_mul, Nat.one_mul] at h1
    have : b ≤ b * b := Nat.le_mul_of_pos_left b (by omega)
    omega
theorem mulR_take (b m : Nat) : ∀ (l : List Nat) (c i : Nat) (h : i < l.length), mulR b m (l.take (i + 1)) c = ((mulR b m (l.take i) c).1 ++ [(l[i] * m + (mulR b m (l.take i) c).2) % b], (l[i] * m + (mulR b m (l.take i) c).2) / b)
  | [], c, i, h => by simp at h
  | x :: l, c, 0, h => by simp [mulR]
  | x :: l, c, i + 1, h => by
    rw [List.take_succ_cons, List.take_succ_cons, mulR, mulR, mulR_take b m l _ i (by simpa using h)]
    rfl
end Go.Nm
end
section
namespace Go.Nm

/-- l less m less k, digit by digit; what is borrowed at the end -/
def subR (b : Nat) : List Nat → List Nat → Nat → List Nat × Nat
  | [], _, k => ([], k)
  | x :: l, m, k => if m.headD 0 + k ≤ x then ((x - (m.headD 0 + k)) :: (subR b l m.tail 0).1, (subR b l m.tail 0).2) else ((b + x - (m.headD 0 + k)) :: (subR b l m.tail 1).1, (subR b l m.tail 1).2)
theorem subR_len (b : Nat) : ∀ l m k, (subR b l m k).1.length = l.length
  | [], _, _ => rfl
  | x :: l, m, k => by
    rw [subR]
    split
    · rw [List.length_cons, subR_len b l, List.length_cons]
    · rw [List.length_cons, subR_len b l, List.length_cons]
theorem vL_headD (b : Nat) (m : List Nat) : vL b m = m.headD 0 + b * vL b m.tail := by
  cases m with
  | nil => simp [vL]
  | cons x m => rfl
theorem subR_val {b : Nat} (hb : 1 < b) : ∀ (l m : List Nat) (k : Nat), (∀ x ∈ l, x < b) → (∀ x ∈ m, x < b) → k ≤ 1 → m.length ≤ l.length →
    vL b (subR b l m k).1 + vL b m + k = vL b l + b ^ l.length * (subR b l m k).2 ∧ (∀ x ∈ (subR b l m k).1, x < b) ∧ (subR b l m k).2 ≤ 1
  | [], m, k, _, _, hk, hm => by
    rw [List.length_eq_zero_iff.1 (Nat.le_zero.1 hm)]
    simp [subR, vL, hk]
  | x :: l, m, k, h1, h2, hk, hm => by
    have hx := h1 x (List.mem_cons_self ..)
    have hy : m.headD 0 < b := by
      cases m with
      | nil => simp only [List.headD_nil]; omega
      | cons y m => exact h2 y (List.mem_cons_self ..)
    have ht : ∀ z ∈ m.tail, z < b := fun z hz => h2 z (List.mem_of_mem_tail hz)
    have htl : m.tail.length ≤ l.length := by rw [List.length_tail]; simp only [List.length_cons] at hm; omega
    rw [subR, vL_headD b m, vL, List.length_cons, Nat.pow_succ]
    split
    · rename_i hc
      obtain ⟨g1, g2, g3⟩ := subR_val hb l m.tail 0 (fun z hz => h1 z (List.mem_cons_of_mem _ hz)) ht (by omega) htl
      refine ⟨?_, fun z hz => ?_, g3⟩
      · simp only [vL]
        have := congrArg (b * ·) g1
        simp only [Nat.mul_add, Nat.add_zero] at this
        rw [← Nat.mul_assoc b, Nat.mul_comm b (b ^ l.length)] at this
        omega
      · rcases List.mem_cons.1 hz with rfl | hz
        · omega
        · exact g2 z hz
    · rename_i hc
      obtain ⟨g1, g2, g3⟩ := subR_val hb l m.tail 1 (fun z hz => h1 z (List.mem_cons_of_mem _ hz)) ht (by omega) htl
      refine ⟨?_, fun z hz => ?_, g3⟩
      · simp only [vL]
        have := congrArg (b * ·) g1
        simp only [Nat.mul_add, Nat.mul_one] at this
        rw [← Nat.mul_assoc b, Nat.mul_comm b (b ^ l.length)] at this
        omega
      · rcases List.mem_cons.1 hz with rfl | hz
        · omega
        · exact g2 z hz
theorem subR_less {b : Nat} (hb : 1 < b) {l m : List Nat} (h1 : ∀ x ∈ l, x < b) (h2 : ∀ x ∈ m, x < b) (hm : m.length ≤ l.length) (hle : vL b m ≤ vL b l) : vL b (subR b l m 0).1 = vL b l - vL b m := by
  obtain ⟨g1, g2, g3⟩ := subR_val hb l m 0 h1 h2 (by omega) hm
  have hlt := vL_lt g2
  rw [subR_len] at hlt
  have : (subR b l m 0).2 = 0 := by
    apply Decidable.byContradiction
    intro hc
    have e : (subR b l m 0).2 = 1 := by omega
    rw [e] at g1
    have := vL_lt h1
    omega
  rw [this] at g1
  omega
/-- as a loop goes -/
def subB (b : Nat) (l m : List Nat) : Nat → Nat
  | 0 => 0
  | i + 1 => if m.getD i 0 + subB b l m i ≤ l.getD i 0 then 0 else 1
def subD (b : Nat) (l m : List Nat) (i : Nat) : Nat := if m.getD i 0 + subB b l m i ≤ l.getD i 0 then l.getD i 0 - (m.getD i 0 + subB b l m i) else b + l.getD i 0 - (m.getD i 0 + subB b l m i)
theorem subR_eq (b : Nat) : ∀ (l m : List Nat) (k : Nat) (f : Nat → Nat), f 0 = k → (∀ i, f (i + 1) = if m.getD i 0 + f i ≤ l.getD i 0 then 0 else 1) →
    (subR b l m k).1 = (List.range l.length).map fun i => if m.getD i 0 + f i ≤ l.getD i 0 then l.getD i 0 - (m.getD i 0 + f i) else b + l.getD i 0 - (m.getD i 0 + f i)
  | [], m, k, f, _, _ => rfl
  | x :: l, m, k, f, h0, hf => by
    have hm : ∀ i, m.tail.getD i 0 = m.getD (i + 1) 0 := fun i => by cases m <;> simp
    have hh : m.getD 0 0 = m.headD 0 := by cases m <;> rfl
    have f1 := hf 0
    rw [hh, h0] at f1
    simp only [List.getD_cons_zero] at f1
    rw [subR, List.length_cons, List.range_succ_eq_map, List.map_cons, List.map_map]
    have key : ∀ k', f 1 = k' → (subR b l m.tail k').1 = (List.range l.length).map ((fun i => if m.getD i 0 + f i ≤ (x :: l).getD i 0 then (x :: l).getD i 0 - (m.getD i 0 + f i) else b + (x :: l).getD i 0 - (m.getD i 0 + f i)) ∘ Nat.succ) := fun k' hk' => by
      rw [subR_eq b l m.tail k' (fun i => f (i + 1)) hk' (fun i => by rw [hf (i + 1), hm]; rfl)]
      apply List.map_congr_left
      intro i _
      simp only [Function.comp, Nat.succ_eq_add_one, hm, List.getD_cons_succ]
    rw [hh, h0]
    simp only [List.getD_cons_zero]
    split
    · rename_i hc
      rw [if_pos hc] at f1
      rw [key 0 f1]
    · rename_i hc
      rw [if_neg hc] at f1
      rw [key 1 f1]
theorem subR_map (b : Nat) (l m : List Nat) : (subR b l m 0).1 = (List.range l.length).map (subD b l m) := subR_eq b l m 0 (subB b l m) rfl fun _ => rfl

/-! ### The quotient, bit by bit -/
structure DivK (Y B : Nat) (k q r : Nat) : Prop where
  eq : Y = q * B + r
  lt : r < B * 2 ^ k
  dvd : q % 2 ^ k = 0
theorem DivK.start {Y B k : Nat} (h : Y < B * 2 ^ k) : DivK Y B k 0 Y := ⟨by omega, h, Nat.zero_mod _⟩
theorem DivK.one {Y B k q r : Nat} (h : DivK Y B (k + 1) q r) (hc : B * 2 ^ k ≤ r) : DivK Y B k (q + 2 ^ k) (r - B * 2 ^ k) := by
  have hl := h.lt
  rw [Nat.pow_succ, ← Nat.mul_assoc] at hl
  refine ⟨?_, by omega, ?_⟩
  · rw [Nat.add_mul, Nat.mul_comm (2 ^ k) B]
    have := h.eq
    omega
  · have h1 : q % 2 ^ k = 0 := Nat.mod_eq_zero_of_dvd (Nat.dvd_trans ⟨2, by rw [Nat.pow_succ]⟩ (Nat.dvd_of_mod_eq_zero h.dvd))
    rw [Nat.add_mod_right]; exact h1
theorem DivK.zero {Y B k q r : Nat} (h : DivK Y B (k + 1) q r) (hc : r < B * 2 ^ k) : DivK Y B k q r :=
  ⟨h.eq, hc, Nat.mod_eq_zero_of_dvd (Nat.dvd_trans ⟨2, by rw [Nat.pow_succ]⟩ (Nat.dvd_of_mod_eq_zero h.dvd))⟩
theorem DivK.fin {Y B q r : Nat} (h : DivK Y B 0 q r) : q = Y / B ∧ r = Y % B := by
  have hl := h.lt
  rw [Nat.pow_zero, Nat.mul_one] at hl
  have he := h.eq
  have hB : 0 < B := by omega
  constructor
  · rw [he, Nat.mul_comm q B, Nat.mul_add_div hB, Nat.div_eq_of_lt hl, Nat.add_zero]
  · rw [he, Nat.mul_comm q B, Nat.mul_add_mod, Nat.mod_eq_of_lt hl]
end Go.Nm
end
section
namespace Go.Nm

def isD (c : UInt8) : Bool := decide (48 ≤ c.toNat) && decide (c.toNat ≤ 57)
def runD : List UInt8 → Nat
  | [] => 0
  | c :: l => if isD c then runD l + 1 else 0
theorem runD_le : ∀ l, runD l ≤ l.length
  | [] => Nat.le_refl _
  | c :: l => by
    rw [runD]
    split
    · have := runD_le l; simp only [List.length_cons]; omega
    · exact Nat.zero_le _
theorem runD_eq : ∀ {l : List UInt8} {n : Nat}, n ≤ l.length → (∀ i, i < n → isD (l.getD i 0) = true) → (n = l.length ∨ isD (l.getD n 0) = false) → runD l = n
  | [], n, h, _, _ => by simp only [List.length_nil] at h; rw [show n = 0 by omega]; rfl
  | c :: l, 0, _, _, h => by
    rcases h with h | h
    · simp at h
    · simp only [List.getD_cons_zero] at h
      rw [runD, if_neg (by rw [h]; decide)]
  | c :: l, n + 1, h1, h2, h3 => by
    have h0 := h2 0 (by omega)
    simp only [List.getD_cons_zero] at h0
    rw [runD, if_pos h0, runD_eq (l := l) (n := n) (by simpa using h1) (fun i hi => by have := h2 (i + 1) (by omega); simpa using this) (by simpa using h3)]
theorem runD_dig : ∀ {l : List UInt8} {i : Nat}, i < runD l → isD (l.getD i 0) = true
  | [], i, h => by simp [runD] at h
  | c :: l, i, h => by
    rw [runD] at h
    split at h
    · rename_i hc
      cases i with
      | zero => simpa using hc
      | succ i => have := runD_dig (l := l) (i := i) (by omega); simpa using this
    · omega
theorem runD_all {l : List UInt8} (h : runD l = l.length) : allD l := fun c hc => by
  obtain ⟨i, hi, rfl⟩ := List.getElem_of_mem hc
  have := runD_dig (l := l) (i := i) (by omega)
  rw [List.getD_eq_getElem?_getD, List.getElem?_eq_getElem hi] at this
  simpa [isD] using this
theorem take_run (l : List UInt8) : allD (l.take (runD l)) := fun c hc => by
  obtain ⟨i, hi, rfl⟩ := List.getElem_of_mem hc
  rw [List.length_take] at hi
  have := runD_dig (l := l) (i := i) (by omega)
  rw [List.getD_eq_getElem?_getD, List.getElem?_eq_getElem (by omega)] at this
  rw [List.getElem_take]
  simpa [isD] using this
/-- the digits, how many of them are behind the point, and the rest -/
def splitP (s : List UInt8) : List UInt8 × Nat × List UInt8 :=
  if (s.drop (runD s)).head? = some 46 then
    (s.take (runD s) ++ ((s.drop (runD s)).drop 1).take (runD ((s.drop (runD s)).drop 1)), runD ((s.drop (runD s)).drop 1), ((s.drop (runD s)).drop 1).drop (runD ((s.drop (runD s)).drop 1)))
  else (s.take (runD s), 0, s.drop (runD s))
theorem split_dig (s : List UInt8) : allD (splitP s).1 := by
  unfold splitP
  split
  · intro c hc
    rcases List.mem_append.1 hc with hc | hc
    · exact take_run _ c hc
    · exact take_run _ c hc
  · exact take_run _
theorem split_len (s : List UInt8) : (splitP s).1.length + (splitP s).2.2.length ≤ s.length ∧ (splitP s).2.1 ≤ (splitP s).1.length := by
  have h1 := runD_le s
  unfold splitP
  split
  · have h2 := runD_le ((s.drop (runD s)).drop 1)
    simp only [List.length_append, List.length_take, List.length_drop] at *
    omega
  · simp only [List.length_take, List.length_drop]; omega
def signed (s : List UInt8) : Bool := s.head? = some 43 || s.head? = some 45
def minus (s : List UInt8) : Bool := s.head? = some 45
def unsign (s : List UInt8) : List UInt8 := if signed s then s.drop 1 else s
/-- an exponent: its sign, its digits -/
def expP (r : List UInt8) : Option (Bool × List UInt8) :=
  if r.head? = some 101 ∨ r.head? = some 69 then
    (if unsign (r.drop 1) = [] ∨ runD (unsign (r.drop 1)) ≠ (unsign (r.drop 1)).length then none else some (minus (r.drop 1), unsign (r.drop 1)))
  else none
/-- digits, and the exponent, cut -/
def readP (s : List UInt8) : Option (List UInt8 × Int) :=
  if (splitP s).1 = [] then none
  else if (splitP s).2.2 = [] then some (trimZ (splitP s).1, -((splitP s).2.1 : Nat))
  else match expP (splitP s).2.2 with
    | none => none
    | some (ng, l) => some (trimZ (splitP s).1, -((splitP s).2.1 : Nat) + (if ng then -1 else 1) * ((min (numL l 0) 100000 : Nat) : Int))
def lowB (c : UInt8) : UInt8 := if 65 ≤ c.toNat ∧ c.toNat ≤ 90 then c + 32 else c
def nanB : Nat := 0x7ff8000000000001
def sgn (neg : Bool) : Nat := if neg then 2 ^ 63 else 0
/-- the float of a text -/
def parseP (s : List UInt8) : Option Nat :=
  if 400 < s.length then none
  else if (unsign s).map lowB = [110, 97, 110] then some nanB
  else if (unsign s).map lowB = [105, 110, 102] ∨ (unsign s).map lowB = [105, 110, 102, 105, 110, 105, 116, 121] then some (infB + sgn (minus s))
  else match readP (unsign s) with
    | none => none
    | some (ds, x) => some (progBits ds x + sgn (minus s))

/-! ### The cut exponents -/
def cutE (m : Nat) (l : List UInt8) : Nat → Nat
  | 0 => 0
  | i + 1 => min (10 * cutE m l i + ((l.getD i 0).toNat - 48)) m
theorem take_snoc {l : List UInt8} {i : Nat} (h : i < l.length) : l.take (i + 1) = l.take i ++ [l.getD i 0] := by
  rw [List.take_succ_eq_append_getElem h, List.getD_eq_getElem?_getD, List.getElem?_eq_getElem h]; rfl
theorem cutE_eq (m : Nat) (l : List UInt8) : ∀ i, i ≤ l.length → cutE m l i = min (numL (l.take i) 0) m
  | 0, _ => by simp [cutE, numL]
  | i + 1, h => by
    rw [cutE, cutE_eq m l i (by omega), take_snoc (by omega), numL_snoc]
    omega
theorem trimZ_len : ∀ l : List UInt8, (trimZ l).length ≤ l.length
  | [] => Nat.le_refl _
  | c :: l => by
    rw [trimZ]
    split
    · have := trimZ_len l; simp only [List.length_cons]; omega
    · exact Nat.le_refl _
end Go.Nm
end
section
namespace Go.Nm

/-- a * m + c, as the program reckons it -/
def timesL (m c : Nat) (l : List Nat) : List Nat := trimN ((mulR (2 ^ 32) m l c).1 ++ [(mulR (2 ^ 32) m l c).2])
theorem timesL_val (m c : Nat) (l : List Nat) : vL (2 ^ 32) (timesL m c l) = vL (2 ^ 32) l * m + c := by
  unfold timesL
  rw [trimN_val, vL_snoc, mulR_len]
  exact mulR_val (by decide) m l c
theorem row_lt {m c : Nat} {l : List Nat} (hm : m ≤ 2 ^ 32) (hc : c < 2 ^ 32) (hl : ∀ x ∈ l, x < 2 ^ 32) : ∀ x ∈ (mulR (2 ^ 32) m l c).1 ++ [(mulR (2 ^ 32) m l c).2], x < 2 ^ 32 := fun x hx => by
  rcases List.mem_append.1 hx with hx | hx
  · exact mulR_lt (by decide) m l c x hx
  · rw [List.mem_singleton.1 hx]
    exact mulR_carry hm l c hl hc
theorem timesL_nrm {m c : Nat} {l : List Nat} (hm : m ≤ 2 ^ 32) (hc : c < 2 ^ 32) (hl : Nrm (2 ^ 32) l) : Nrm (2 ^ 32) (timesL m c l) := trimN_nrm (row_lt hm hc hl.lt)
/-- l times 2 to the n -/
def upR (n : Nat) (l : List Nat) : List Nat := List.replicate (n / 32) 0 ++ ((mulR (2 ^ 32) (2 ^ (n % 32)) l 0).1 ++ [(mulR (2 ^ 32) (2 ^ (n % 32)) l 0).2])
def upL (n : Nat) (l : List Nat) : List Nat := trimN (upR n l)
theorem vL_zeros (b : Nat) : ∀ k, vL b (List.replicate k 0) = 0
  | 0 => rfl
  | k + 1 => by rw [List.replicate_succ, vL, vL_zeros b k]; omega
theorem upL_val (n : Nat) (l : List Nat) : vL (2 ^ 32) (upL n l) = vL (2 ^ 32) l * 2 ^ n := by
  unfold upL upR
  rw [trimN_val, vL_app, vL_zeros, vL_snoc, mulR_len, mulR_val (by decide), List.length_replicate, Nat.zero_add, Nat.add_zero]
  have e : (2 : Nat) ^ n = (2 ^ 32) ^ (n / 32) * 2 ^ (n % 32) := by rw [← Nat.pow_mul, ← Nat.pow_add]; congr 1; omega
  rw [e, Nat.mul_left_comm]
theorem pow32 (n : Nat) : 2 ^ (n % 32) ≤ 2 ^ 32 := Nat.pow_le_pow_right (by decide) (by omega)
theorem upR_lt {n : Nat} {l : List Nat} (hl : ∀ x ∈ l, x < 2 ^ 32) : ∀ x ∈ upR n l, x < 2 ^ 32 := fun x hx => by
  unfold upR at hx
  rcases List.mem_append.1 hx with hx | hx
  · rw [(List.mem_replicate.1 hx).2]; decide
  · exact row_lt (pow32 n) (by decide) hl x hx
theorem upL_nrm {n : Nat} {l : List Nat} (hl : Nrm (2 ^ 32) l) : Nrm (2 ^ 32) (upL n l) := trimN_nrm (upR_lt hl.lt)
theorem trimN_len (l : List Nat) : (trimN l).length ≤ l.length := by
  obtain ⟨n, h1, h2⟩ := trimN_take l
  rw [h2, List.length_take]; omega
theorem timesL_len (m c : Nat) (l : List Nat) : (timesL m c l).length ≤ l.length + 1 := by
  unfold timesL
  have := trimN_len ((mulR (2 ^ 32) m l c).1 ++ [(mulR (2 ^ 32) m l c).2])
  rwa [List.length_append, mulR_len, List.length_singleton] at this
theorem upL_len (n : Nat) (l : List Nat) : (upL n l).length ≤ n / 32 + l.length + 1 := by
  unfold upL upR
  have := trimN_len (List.replicate (n / 32) 0 ++ ((mulR (2 ^ 32) (2 ^ (n % 32)) l 0).1 ++ [(mulR (2 ^ 32) (2 ^ (n % 32)) l 0).2]))
  rw [List.length_append, List.length_append, mulR_len, List.length_singleton, List.length_replicate] at this
  omega
def lessL (l m : List Nat) : List Nat := trimN (subR (2 ^ 32) l m 0).1
theorem lessL_val {l m : List Nat} (h1 : Nrm (2 ^ 32) l) (h2 : Nrm (2 ^ 32) m) (hle : vL (2 ^ 32) m ≤ vL (2 ^ 32) l) : vL (2 ^ 32) (lessL l m) = vL (2 ^ 32) l - vL (2 ^ 32) m := by
  unfold lessL
  rw [trimN_val]
  refine subR_less (by decide) h1.lt h2.lt ?_ hle
  apply Nat.le_of_not_lt
  intro h
  have := h1.len_lt (by decide) h2 h
  omega
theorem len_of_le {l m : List Nat} (h1 : Nrm (2 ^ 32) l) (h2 : Nrm (2 ^ 32) m) (hle : vL (2 ^ 32) m ≤ vL (2 ^ 32) l) : m.length ≤ l.length := by
  apply Nat.le_of_not_lt
  intro h
  have := h1.len_lt (by decide) h2 h
  omega
theorem lessL_nrm {l m : List Nat} (h1 : Nrm (2 ^ 32) l) (h2 : Nrm (2 ^ 32) m) (hm : m.length ≤ l.length) : Nrm (2 ^ 32) (lessL l m) := trimN_nrm (subR_val (by decide) l m 0 h1.lt h2.lt (by decide) hm).2.1
/-- the bits of a number, from its row -/
def sizeL (l : List Nat) : Nat := if l = [] then 0 else 32 * (l.length - 1) + bl (l.getLastD 0)
theorem sizeL_eq {l : List Nat} (h : Nrm (2 ^ 32) l) : sizeL l = bl (vL (2 ^ 32) l) := by
  unfold sizeL
  by_cases h0 : l = []
  · subst h0; rfl
  · rw [if_neg h0]
    have e := (List.dropLast_concat_getLast h0).symm
    have ht := h.top h0
    have hlast : l.getLastD 0 = l.getLast h0 := by rw [List.getLastD_eq_getLast?, List.getLast?_eq_some_getLast h0]; rfl
    have hlx := h.lt (l.getLast h0) (List.getLast_mem h0)
    rw [hlast]
    generalize hx : l.getLast h0 = x at *
    have hd := vL_lt (b := 2 ^ 32) (l := l.dropLast) fun y hy => h.lt y (List.dropLast_subset l hy)
    have hv : vL (2 ^ 32) l = vL (2 ^ 32) l.dropLast + (2 ^ 32) ^ (l.length - 1) * x := by
      conv => lhs; rw [e]
      rw [vL_snoc, List.length_dropLast]
    rw [List.length_dropLast] at hd
    obtain ⟨g1, g2, g3⟩ := bl_pos (show 0 < x by omega)
    have ep : (2 ^ 32 : Nat) ^ (l.length - 1) = 2 ^ (32 * (l.length - 1)) := (Nat.pow_mul ..).symm
    rw [ep] at hd hv
    symm
    apply bl_unique
    · rw [hv, show 32 * (l.length - 1) + bl x - 1 = 32 * (l.length - 1) + (bl x - 1) by omega, Nat.pow_add]
      exact Nat.le_trans (Nat.mul_le_mul_left _ g1) (Nat.le_add_left ..)
    · rw [hv, Nat.pow_add]
      have : 2 ^ (32 * (l.length - 1)) * (x + 1) ≤ 2 ^ (32 * (l.length - 1)) * 2 ^ bl x := Nat.mul_le_mul_left _ g2
      rw [Nat.mul_add, Nat.mul_one] at this
      omega
    · omega

/-! ### The reference's -/
/-- the digits of a number to the base 10000 -/
def dig4 : Nat → Nat → List Nat
  | 0, _ => []
  | f + 1, n => if n = 0 then [] else n % 10000 :: dig4 f (n / 10000)
theorem dig4_val : ∀ f n, n < 10000 ^ f → vL 10000 (dig4 f n) = n
  | 0, n, h => by simp only [Nat.pow_zero] at h; rw [dig4, vL]; omega
  | f + 1, n, h => by
    rw [dig4]
    split
    · rename_i h0; rw [h0]; rfl
    · rw [vL, dig4_val f (n / 10000) (by apply Nat.div_lt_of_lt_mul; rw [Nat.pow_succ, Nat.mul_comm] at h; exact h)]
      omega
theorem dig4_nrm : ∀ f n, n < 10000 ^ f → Nrm 10000 (dig4 f n)
  | 0, n, _ => Nrm.nil _
  | f + 1, n, h => by
    rw [dig4]
    split
    · exact Nrm.nil _
    · rename_i h0
      have hn : n / 10000 < 10000 ^ f := by apply Nat.div_lt_of_lt_mul; rw [Nat.pow_succ, Nat.mul_comm] at h; exact h
      have ih := dig4_nrm f (n / 10000) hn
      have iv := dig4_val f (n / 10000) hn
      refine ⟨fun x hx => ?_, fun hne => ?_⟩
      · rcases List.mem_cons.1 hx with rfl | hx
        · omega
        · exact ih.lt x hx
      · by_cases hd : dig4 f (n / 10000) = []
        · have e : n % 10000 :: dig4 f (n / 10000) = [n % 10000] := by rw [hd]
          rw [hd] at iv
          simp only [vL] at iv
          simp only [e, List.getLast_singleton]
          omega
        · rw [List.getLast_cons hd]
          exact ih.top hd
theorem mulR_top {b m : Nat} (hm : 0 < m) : ∀ (l : List Nat) (c : Nat), (∀ h : l ≠ [], l.getLast h ≠ 0) → (mulR b m l c).2 = 0 → ∀ h : (mulR b m l c).1 ≠ [], (mulR b m l c).1.getLast h ≠ 0
  | [], c, _, _, h => absurd rfl h
  | [x], c, ht, h0, h => by
    have hx := ht (by simp)
    simp only [List.getLast_singleton] at hx
    simp only [mulR] at h0 ⊢
    simp only [List.getLast_singleton]
    have : 0 < x * m := Nat.mul_pos (by omega) hm
    have hd := Nat.div_add_mod (x * m + c) b
    rw [h0, Nat.mul_zero, Nat.zero_add] at hd
    omega
  | x :: y :: l, c, ht, h0, h => by
    have hc := mulR_top hm (y :: l) ((x * m + c) / b) (fun h => by have := ht (by simp); rwa [List.getLast_cons h] at this) (by rw [mulR] at h0; exact h0)
    have hne : (mulR b m (y :: l) ((x * m + c) / b)).1 ≠ [] := by rw [mulR]; simp
    have e : (mulR b m (x :: y :: l) c).1 = (x * m + c) % b :: (mulR b m (y :: l) ((x * m + c) / b)).1 := by rw [mulR]
    simp only [e]
    rw [List.getLast_cons hne]
    exact hc hne
/-- a * k + more, as the reference reckons it -/
def timesR (k more : Nat) (l : List Nat) : List Nat := (mulR 10000 k l more).1 ++ dig4 20 (mulR 10000 k l more).2
theorem timesR_val {k more : Nat} {l : List Nat} (h : (mulR 10000 k l more).2 < 10000 ^ 20) : vL 10000 (timesR k more l) = vL 10000 l * k + more := by
  unfold timesR
  rw [vL_app, dig4_val _ _ h, mulR_len]
  exact mulR_val (by decide) k l more
theorem timesR_nrm {k more : Nat} {l : List Nat} (hk : 0 < k) (hl : Nrm 10000 l) (h : (mulR 10000 k l more).2 < 10000 ^ 20) : Nrm 10000 (timesR k more l) := by
  unfold timesR
  have hd := dig4_nrm 20 _ h
  refine ⟨fun x hx => ?_, fun hne => ?_⟩
  · rcases List.mem_append.1 hx with hx | hx
    · exact mulR_lt (by decide) k l more x hx
    · exact hd.lt x hx
  · by_cases hc : dig4 20 (mulR 10000 k l more).2 = []
    · have h0 : (mulR 10000 k l more).2 = 0 := by
        have := dig4_val 20 _ h
        rw [hc] at this
        exact this.symm
      simp only [hc, List.append_nil] at hne ⊢
      exact mulR_top hk l more hl.top h0 hne
    · rw [List.getLast_append_of_ne_nil _ hc]
      exact hd.top hc
theorem zeros_nrm {b : Nat} (hb : 0 < b) {l : List Nat} (h : Nrm b l) (h0 : l ≠ []) (k : Nat) : Nrm b (List.replicate k 0 ++ l) := by
  refine ⟨fun x hx => ?_, fun hne => ?_⟩
  · rcases List.mem_append.1 hx with hx | hx
    · rw [(List.mem_replicate.1 hx).2]; exact hb
    · exact h.lt x hx
  · rw [List.getLast_append_of_ne_nil _ h0]
    exact h.top h0
theorem zeros_val (b k : Nat) (l : List Nat) : vL b (List.replicate k 0 ++ l) = b ^ k * vL b l := by
  rw [vL_app, vL_zeros, List.length_replicate, Nat.zero_add]
end Go.Nm
end
section
namespace Go.Nm

theorem cmpV_mul {a b c : Nat} (hc : 0 < c) : cmpV (a * c) (b * c) = cmpV a b := by
  unfold cmpV
  simp only [Nat.mul_lt_mul_right hc]
/-- how m times 2 to the e stands to D times 10 to the x, as the reference reckons it -/
def belowP (m : Nat) (e : Int) (D : Nat) (x : Int) : Int := cmpV (m * 2 ^ e.toNat * 10 ^ (-x).toNat) (D * 2 ^ (-e).toNat * 10 ^ x.toNat)
theorem below_scale {m D j : Nat} {e x : Int} (hj : (j : Int) = e + cP) : belowP m e D x = cmpV (m * 2 ^ j * 10 ^ (-x).toNat) (D * 10 ^ x.toNat * 2 ^ cP) := by
  unfold belowP
  have hc := Nat.two_pow_pos (cP - (-e).toNat)
  rw [← cmpV_mul hc]
  generalize 10 ^ (-x).toNat = B
  generalize 10 ^ x.toNat = T
  have e1 : 2 ^ e.toNat * 2 ^ (cP - (-e).toNat) = 2 ^ j := by rw [← Nat.pow_add]; congr 1; omega
  have e2 : 2 ^ (-e).toNat * 2 ^ (cP - (-e).toNat) = 2 ^ cP := by rw [← Nat.pow_add]; congr 1; omega
  have hA : m * 2 ^ e.toNat * B * 2 ^ (cP - (-e).toNat) = m * 2 ^ j * B := by rw [Nat.mul_right_comm _ B, Nat.mul_assoc m, e1]
  have hB : D * 2 ^ (-e).toNat * T * 2 ^ (cP - (-e).toNat) = D * T * 2 ^ cP := by rw [Nat.mul_right_comm D, Nat.mul_assoc (D * T), e2]
  rw [hA, hB]
theorem below_v (b D : Nat) (x : Int) : belowP (mB b) ((kB b : Int) - 1074) D x = cmpV (vB b * 10 ^ (-x).toNat) (D * 10 ^ x.toNat * 2 ^ cP) := by
  rw [below_scale (j := kB b + 1) (by unfold cP; omega)]
  unfold vB
  rw [Nat.pow_succ, Nat.mul_comm 2 (mB b), Nat.mul_assoc (mB b) 2, Nat.mul_comm 2 (2 ^ kB b)]
theorem below_h (b D : Nat) (x : Int) : belowP (2 * mB b + 1) ((kB b : Int) - 1074 - 1) D x = cmpV (hB b * 10 ^ (-x).toNat) (D * 10 ^ x.toNat * 2 ^ cP) := by
  rw [below_scale (j := kB b) (by unfold cP; omega)]
  rfl
theorem cmpV_lt {a b : Nat} : cmpV a b < 0 ↔ a < b := by
  unfold cmpV
  split
  · exact ⟨fun _ => by omega, fun _ => by decide⟩
  · split
    · exact ⟨fun h => absurd h (by decide), fun h => by omega⟩
    · exact ⟨fun h => absurd h (by decide), fun h => by omega⟩
theorem cmpV_eq {a b : Nat} : cmpV a b = 0 ↔ a = b := by
  unfold cmpV
  split
  · exact ⟨fun h => absurd h (by decide), fun h => by omega⟩
  · split
    · exact ⟨fun h => absurd h (by decide), fun h => by omega⟩
    · exact ⟨fun _ => by omega, fun _ => rfl⟩
/-- the search under way -/
structure Srch (X B lo hi : Nat) : Prop where
  lt : lo < hi
  hb : hi ≤ infB
  le : vB lo * B ≤ X
  up : hi = infB ∨ X < vB hi * B
theorem Srch.start {X B : Nat} : Srch X B 0 infB := ⟨by decide, Nat.le_refl _, by unfold vB mB; simp, .inl rfl⟩
theorem Srch.fin {X B lo hi : Nat} (h : Srch X B lo hi) (hc : hi ≤ lo + 1) : IsLo X B lo := by
  have := h.lt
  obtain rfl : hi = lo + 1 := by omega
  exact ⟨by have := h.hb; omega, h.le, h.up⟩
/-- the parts, from the bits -/
theorem mB_mask (b : Nat) : mB b = if b / 2 ^ 52 = 0 then b % 2 ^ 52 else b % 2 ^ 52 + 2 ^ 52 := by
  unfold mB
  split <;> omega
end Go.Nm
end
section
open Go Go.Vg Go.RowKit Go.Proofs Go.Proofs.YtcngoccnfmhhnaaGreatDoor
namespace Go.Proofs.YtcngoccnfmhhnaaGreatDoor
open Go.Nm

def u32C (x : Nat) : List Value := [.int .u32 x]
/-- a row of words in memory -/
structure Nt (w : World) (v : Value) (l : List Nat) : Prop where
  sl : Sli w v 1 (l.map u32C)
  nr : Nrm (2 ^ 32) l
theorem Nt.to {w w' : World} {v : Value} {l : List Nat} (h : Nt w v l) (hx : Ext w w') : Nt w' v l := ⟨h.sl.to hx, h.nr⟩
theorem u32_one (l : List Nat) : ∀ y ∈ l.map u32C, ∀ c ∈ y, c.oneCell' = true := by
  intro y hy c hc
  obtain ⟨n, _, rfl⟩ := List.mem_map.1 hy
  simp only [u32C, List.mem_cons, List.not_mem_nil, or_false] at hc
  subst hc; rfl
theorem wrap_u32m (n : Int) : IntKind.u32.wrap n = n % 4294967296 := rfl
theorem shr_nat (a n : Nat) : ((a : Nat) : Int) / 2 ^ n = ((a / 2 ^ n : Nat) : Int) := by
  rw [Int.natCast_ediv, Int.natCast_pow]; rfl
theorem set_fill {α : Type} (A : List α) (z y : α) {i k : Nat} (hA : A.length = i) : (A ++ List.replicate (k + 1) z).set i y = (A ++ [y]) ++ List.replicate k z := by
  subst hA
  rw [List.set_append_right _ _ (Nat.le_refl _), Nat.sub_self, List.replicate_succ, List.set_cons_zero, List.append_assoc]; rfl
set_option maxHeartbeats 1000000 in
theorem trim_ok (v : Value) (l : List Nat) (w : World) (hv : Sli w v 1 (l.map u32C)) : Ret Tryz.prog 194 ⟨[v]⟩ w fun r w' => Sli w' r 1 ((trimN l).map u32C) ∧ w' = w := by
  refine ret_of_G Tryz.func194 rfl Tryz.ntmps194 rfl ?_
  simp only [argEnv]
  refine rn ?_
  refine (G.loop (fun x : Nat × List Nat × Value => [(0, none, x.2.2)]) (fun x W => W = w ∧ Sli w x.2.2 1 (x.2.1.map u32C) ∧ trimN x.2.1 = trimN l ∧ x.2.1.length = x.1) (fun x => x.1) (l.length, l, v) (by repeat (first | exact Sub.nil _ | refine Sub.cons rfl ?_)) ⟨rfl, hv, rfl, rfl⟩ ?_)
  rintro ⟨k, m, u⟩ _ ⟨rfl, hu, ht, hk⟩
  simp only at hu ht hk
  show G _ _ [(0, none, u)] _
  have hbd := hu.bound
  rw [List.length_map] at hbd
  have hml : (m.map u32C).length = m.length := List.length_map ..
  rcases List.eq_nil_or_concat m with hm | ⟨q, x, hm⟩
  · subst hm
    refine rn ?_
    refine GL.cons (Step.off (v := .int .i64 0) rfl (of_decide_eq_true rfl) rfl ?_)
    refine GL.cons (Step.off (v := .pointer none) rfl (of_decide_eq_true rfl) rfl ?_)
    refine GL.cons (Step.off (v := .int .u32 0) rfl (of_decide_eq_true rfl) rfl ?_)
    refine rn ?_
    refine G.ret1 rfl rfl rfl rfl ?_
    exact ⟨by rw [← ht]; exact hu, rfl⟩
  · rw [List.concat_eq_append] at hm
    subst hm
    have hql : (q ++ [x]).length = q.length + 1 := by simp
    have hget : ((q ++ [x]).map u32C)[q.length]? = some (u32C x) := by simp
    refine rn ?_
    rw [hml, hql, decide_eq_true (p := (0 : Int) < ((q.length + 1 : Nat) : Int)) (by omega)]
    refine rn ?_
    refine sAd tb (r := ((q.length : Nat) : Int)) (hp := (wrap_i64 (n := ((q.length + 1 : Nat) : Int) - 1) (by omega) (by omega)).trans (by omega)) ?_
    refine rn ?_
    refine sIa tb q.length ?_ (hj := fun _ => ⟨rfl, by rw [hml, hql]; omega⟩)
    refine rn ?_
    first | refine G.condD rfl (fun hc => ?_) (fun hc => ?_) | refine G.condN rfl (fun hc => ?_) (fun hc => ?_) | refine G.cond rfl (fun hc => ?_) (fun hc => ?_)
    · have hx0 : x = 0 := by
        have : (x : Int) = 0 := by simpa using hc
        omega
      rw [trimN_snoc, if_pos hx0] at ht
      refine rn ?_
      rw [hml, hql]
      refine sAd tb (r := ((q.length : Nat) : Int)) (hp := (wrap_i64 (n := ((q.length + 1 : Nat) : Int) - 1) (by omega) (by omega)).trans (by omega)) ?_
      refine GL.cons (Step.sliceVh tb q.length rfl (Op1.of rfl (by first | exact fun _ => rfl | exact fun h => h | exact fun h => bL h | exact fun h => bL (bL h) | exact fun h => bL (bL (bL h)))) (Op1.of rfl (by first | exact fun _ => rfl | exact fun h => h | exact fun h => bL h | exact fun h => bL (bL h) | exact fun h => bL (bL (bL h)))) rfl rfl (fun _ => ⟨_, hu⟩) (fun _ => ⟨rfl, by rw [hml, hql]; omega⟩) rfl ?_)
      have hsub := hu.sub (Nat.zero_le q.length) (by rw [hml, hql]; omega)
      rw [List.drop_zero, Nat.sub_zero, ← List.map_take, List.take_left] at hsub
      refine rn ?_
      exact G.lp (x := (k, q ++ [x], u)) (q.length, q, subS u 1 0 q.length) (by repeat (first | exact Sub.nil _ | refine Sub.cons rfl ?_)) ⟨rfl, hsub, ht, rfl⟩ (by simp only; omega)
    · have hx0 : x ≠ 0 := by
        intro h
        subst h
        simp at hc
      rw [trimN_snoc, if_neg hx0] at ht
      refine rn ?_
      refine G.ret1 rfl rfl rfl rfl ?_
      exact ⟨by rw [← ht]; exact hu, rfl⟩
set_option maxHeartbeats 2000000 in
theorem times_ok (v : Value) (l : List Nat) (m c : Nat) (w : World) (hv : Nt w v l) (hl : l.length ≤ 1000000) (hm : m < 2 ^ 32) (hcl : c < 2 ^ 32) :
    Ret Tryz.prog 178 ⟨[v, .int .u32 m, .int .u32 c]⟩ w fun r w' => Nt w' r (timesL m c l) ∧ Ext w w' := by
  have hvs := hv.sl
  have hll : (l.map u32C).length = l.length := List.length_map ..
  refine ret_of_G Tryz.func178 rfl Tryz.ntmps178 rfl ?_
  simp only [argEnv]
  refine rn ?_
  rw [hll]
  refine sAd tb (r := ((l.length + 1 : Nat) : Int)) ?_
  refine rn ?_
  refine sMkS tb (z := .int .u32 0) (bytes := 4) (m := ((l.length + 1 : Nat) : Int)) (l.length + 1) (fun ov W1 ho1 hs1 hx1 _ => ?_)
  have ho1' : Owns W1 w.heap.size ov 159 1 (((mulR (2 ^ 32) m (l.take 0) c).1 ++ List.replicate (l.length - 0 + 1) 0).map u32C) := by
    have : ((mulR (2 ^ 32) m (l.take 0) c).1 ++ List.replicate (l.length - 0 + 1) 0).map u32C = (List.replicate (l.length + 1) (Value.int .u32 0)).map fun u => [u] := by simp [u32C, mulR]
    rw [this]; exact ho1
  refine rn ?_
  refine sCv tb (r := ((c : Nat) : Int)) ?_ (hr := wrap_u64 (by omega) (by omega))
  refine rn ?_
  rw [hll]
  refine (G.loop (fun i : Nat => [(0, none, v), (1, none, .int .u32 m), (7, none, ov), (8, none, .int .u64 ((mulR (2 ^ 32) m (l.take i) c).2 : Nat)), (17, none, v), (18, none, .int .i64 l.length), (19, none, .int .i64 i)])
    (fun i W => Ext w W ∧ Owns W w.heap.size ov 159 1 (((mulR (2 ^ 32) m (l.take i) c).1 ++ List.replicate (l.length - i + 1) 0).map u32C) ∧ i ≤ l.length) (fun i => l.length - i) 0 (by repeat (first | exact Sub.nil _ | refine Sub.cons rfl ?_)) ⟨hx1, ho1', Nat.zero_le _⟩ ?_)
  clear ho1 ho1' hx1 hs1
  rintro i W ⟨hx, ho, hi⟩
  have hvW := hvs.to hx
  have hcb := mulR_carry (b := 2 ^ 32) (m := m) (by omega) (l.take i) c (fun x hx => hv.nr.lt x (List.mem_of_mem_take hx)) hcl
  have hrl := mulR_len (2 ^ 32) m (l.take i) c
  rw [List.length_take, Nat.min_eq_left hi] at hrl
  have hol : (((mulR (2 ^ 32) m (l.take i) c).1 ++ List.replicate (l.length - i + 1) 0).map u32C).length = l.length + 1 := by rw [List.length_map, List.length_append, hrl, List.length_replicate]; omega
  refine rn ?_
  first | refine G.condD rfl (fun hc => ?_) (fun hc => ?_) | refine G.condN rfl (fun hc => ?_) (fun hc => ?_) | refine G.cond rfl (fun hc => ?_) (fun hc => ?_)
  · have hlt : i < l.length := by omega
    have hget : (l.map u32C)[i]? = some (u32C l[i]) := by rw [List.getElem?_map, List.getElem?_eq_getElem hlt]; rfl
    have hxl := hv.nr.lt l[i] (List.getElem_mem hlt)
    have hst := mulR_take (2 ^ 32) m l c i hlt
    generalize l[i] = x at hget hxl hst
    generalize hR : (mulR (2 ^ 32) m (l.take i) c) = R at *
    obtain ⟨row, k⟩ := R
    simp only at hcb hrl hol hst ho ⊢
    have hxm : x * m ≤ (2 ^ 32 - 1) * (2 ^ 32 - 1) := Nat.mul_le_mul (by omega) (by omega)
    refine rn ?_
    refine sIa tb i ?_ (hj := fun _ => ⟨rfl, by rw [hll]; exact hlt⟩)
    refine rn ?_
    refine sCv tb (r := ((x : Nat) : Int)) ?_ (hr := wrap_u64 (by omega) (by omega))
    refine rn ?_
    refine sCv tb (r := ((m : Nat) : Int)) ?_ (hr := wrap_u64 (by omega) (by omega))
    refine rn ?_
    refine GL.cons (Step.arith (k := .u64) (a := ((x : Nat) : Int)) (b := ((m : Nat) : Int)) (r := ((x * m : Nat) : Int)) rfl (Op1.of rfl (by first | exact fun _ => rfl | exact fun h => h | exact fun h => bL h | exact fun h => bL (bL h) | exact fun h => bL (bL (bL h)))) (Op1.of rfl (by first | exact fun _ => rfl | exact fun h => h | exact fun h => bL h | exact fun h => bL (bL h) | exact fun h => bL (bL (bL h)))) ((wrap_u64 (n := ((x : Nat) : Int) * ((m : Nat) : Int)) (by rw [← Int.natCast_mul]; omega) (by rw [← Int.natCast_mul]; omega)).trans (Int.natCast_mul ..).symm) rfl ?_)
    refine GL.cons (Step.arith (k := .u64) (a := ((k : Nat) : Int)) (b := ((x * m : Nat) : Int)) (r := ((x * m + k : Nat) : Int)) rfl (Op1.of rfl (by first | exact fun _ => rfl | exact fun h => h | exact fun h => bL h | exact fun h => bL (bL h) | exact fun h => bL (bL (bL h)))) (Op1.of rfl (by first | exact fun _ => rfl | exact fun h => h | exact fun h => bL h | exact fun h => bL (bL h) | exact fun h => bL (bL (bL h)))) ((wrap_u64 (n := ((k : Nat) : Int) + ((x * m : Nat) : Int)) (by omega) (by omega)).trans (by omega)) rfl ?_)
    refine rn ?_
    refine sCv tb (r := (((x * m + k) % 2 ^ 32 : Nat) : Int)) ?_ (hr := by rw [wrap_u32m]; omega)
    have how := ho.sli
    refine sIa tb i ?_ (hj := fun _ => ⟨rfl, by rw [hol]; omega⟩)
    refine sStR tb (j := i) (vs := u32C ((x * m + k) % 2 ^ 32)) ho (by rw [hol]; omega) (fun W2 ho2 hg2 => ?_) (h1 := u32_one [_] _ (List.mem_cons_self ..))
    have hx2 : Ext w W2 := hg2.below w hx
    refine rn ?_
    refine sShr (n := 32) (shr_nat (x * m + k) 32) ?_
    refine rn ?_
    refine sAd tb (r := ((i + 1 : Nat) : Int)) ?_
    refine rn ?_
    refine G.lp (x := i) (i + 1) ?_ ⟨hx2, ?_, by omega⟩ (by omega)
    · rw [hst]; exact (by repeat (first | exact Sub.nil _ | refine Sub.cons rfl ?_))
    · rw [hst]
      rw [← List.map_set, show l.length - i = (l.length - (i + 1)) + 1 by omega, set_fill _ _ _ hrl] at ho2
      exact ho2
  · have hie : i = l.length := by omega
    subst hie
    rw [List.take_length, Nat.sub_self] at ho hol
    rw [List.take_length] at hrl hcb
    rw [List.take_length]
    generalize hR : (mulR (2 ^ 32) m l c) = R at *
    obtain ⟨row, k⟩ := R
    simp only at hcb hrl hol ho ⊢
    have how := ho.sli
    refine rn ?_
    rw [hll]
    refine sCv tb (r := ((k : Nat) : Int)) ?_ (hr := by rw [wrap_u32m]; omega)
    refine sIa tb l.length ?_ (hj := fun _ => ⟨rfl, by rw [hol]; omega⟩)
    refine sStR tb (j := l.length) (vs := u32C k) ho (by rw [hol]; omega) (fun W2 ho2 hg2 => ?_) (h1 := u32_one [_] _ (List.mem_cons_self ..))
    have hx2 : Ext w W2 := hg2.below w hx
    rw [← List.map_set, set_fill (k := 0) _ _ _ hrl, List.replicate_zero, List.append_nil] at ho2
    refine rn ?_
    refine sCall c194 (trim_ok ov _ W2 ho2.sli) ?_
    rintro r _ ⟨hr, rfl⟩
    refine rn ?_
    refine G.ret1 rfl rfl rfl rfl ?_
    refine ⟨⟨?_, timesL_nrm (by omega) hcl hv.nr⟩, hx2⟩
    unfold timesL
    rw [hR]
    exact hr
end Go.Proofs.YtcngoccnfmhhnaaGreatDoor
end
section
open Go Go.Vg Go.RowKit Go.Proofs Go.Proofs.YtcngoccnfmhhnaaGreatDoor
namespace Go.Proofs.YtcngoccnfmhhnaaGreatDoor
open Go.Nm

theorem bl_shift {x k : Nat} (h : 2 ^ k ≤ x) : bl x = bl (x / 2 ^ k) + k := by
  have hp := Nat.two_pow_pos k
  have hy : 0 < x / 2 ^ k := Nat.div_pos h hp
  obtain ⟨g1, g2, g3⟩ := bl_pos hy
  apply bl_unique
  · rw [show bl (x / 2 ^ k) + k - 1 = (bl (x / 2 ^ k) - 1) + k by omega, Nat.pow_add]
    exact Nat.le_trans (Nat.mul_le_mul_right _ g1) (Nat.div_mul_le_self x _)
  · rw [Nat.pow_add]
    have : (x / 2 ^ k + 1) * 2 ^ k ≤ 2 ^ bl (x / 2 ^ k) * 2 ^ k := Nat.mul_le_mul_right _ g2
    exact Nat.lt_of_lt_of_le (by rw [Nat.mul_comm]; exact Nat.lt_mul_div_succ x hp) this
  · omega
def lenTab : List UInt8 := (List.range 256).map fun j => UInt8.ofNat (bl j)
theorem lenTab_len : lenTab.length = 256 := by unfold lenTab; rw [List.length_map, List.length_range]
theorem lenTab_at : ∀ j : Fin 256, (lenTab.getD j.val 0).toNat = bl j.val := by decide +kernel
set_option maxHeartbeats 1000000 in
theorem len32_ok (x : Nat) (w_ : World) (hx : x < 2 ^ 32) : Ret Tryz.prog 174 ⟨[.int .u32 x]⟩ w_ fun r w' => r = .int .i64 (bl x) ∧ w' = w_ := by
  refine ret_of_G Tryz.func174 rfl Tryz.ntmps174 rfl ?_
  simp only [argEnv]
  refine rn ?_
  refine G.join (fun y : Nat × Nat => [(0, none, .int .u32 y.1), (2, none, .int .i64 y.2)]) (fun y w' => w' = w_ ∧ y.1 < 65536 ∧ y.2 ≤ 16 ∧ bl x = bl y.1 + y.2) ?_ ?_
  rotate_left
  · first | refine G.condD rfl (fun hc => ?_) (fun hc => ?_) | refine G.condN rfl (fun hc => ?_) (fun hc => ?_) | refine G.cond rfl (fun hc => ?_) (fun hc => ?_)
    · have h16 : 65536 ≤ x := by omega
      refine rn ?_
      refine sShr (n := 16) (shr_nat x 16) ?_
      refine rn ?_
      exact G.met (x / 2 ^ 16, 16) (by repeat (first | exact Sub.nil _ | refine Sub.cons rfl ?_)) ⟨rfl, by simp only; omega, by simp only; omega, bl_shift h16⟩
    · refine rn ?_
      exact G.met (x, 0) (by repeat (first | exact Sub.nil _ | refine Sub.cons rfl ?_)) ⟨rfl, by simp only; omega, by simp only; omega, rfl⟩
  rintro ⟨y, n⟩ W1 ⟨rfl, hy, hn, hb⟩
  simp only at hy hn hb
  rw [hb]
  show G _ _ [(0, none, .int .u32 y), (2, none, .int .i64 n)] _
  refine rn ?_
  refine G.join (fun y : Nat × Nat => [(0, none, .int .u32 y.1), (2, none, .int .i64 y.2)]) (fun z w' => w' = W1 ∧ z.1 < 256 ∧ z.2 ≤ 24 ∧ bl y + n = bl z.1 + z.2) ?_ ?_
  rotate_left
  · first | refine G.condD rfl (fun hc => ?_) (fun hc => ?_) | refine G.condN rfl (fun hc => ?_) (fun hc => ?_) | refine G.cond rfl (fun hc => ?_) (fun hc => ?_)
    · have h8 : 256 ≤ y := by omega
      refine rn ?_
      refine sShr (n := 8) (shr_nat y 8) ?_
      refine rn ?_
      refine sAd tb (r := ((n + 8 : Nat) : Int)) ?_
      refine rn ?_
      exact G.met (y / 2 ^ 8, n + 8) (by repeat (first | exact Sub.nil _ | refine Sub.cons rfl ?_)) ⟨rfl, by simp only; omega, by simp only; omega, by have := bl_shift (x := y) (k := 8) h8; simp only; omega⟩
    · refine rn ?_
      exact G.met (y, n) (by repeat (first | exact Sub.nil _ | refine Sub.cons rfl ?_)) ⟨rfl, by simp only; omega, by simp only; omega, rfl⟩
  rintro ⟨z, k⟩ _ ⟨rfl, hz, hk, hb2⟩
  simp only at hz hk hb2
  rw [hb2]
  show G _ _ [(0, none, .int .u32 z), (2, none, .int .i64 k)] _
  have hzb : bl z ≤ 8 := by
    by_cases h0 : z = 0
    · rw [h0]; decide
    · have := (bl_pos (show 0 < z by omega)).1
      apply Nat.le_of_not_lt
      intro hc
      have := Nat.pow_le_pow_right (show 0 < 2 by decide) (show 8 ≤ bl z - 1 by omega)
      omega
  refine rn ?_
  refine sCv tb (r := ((z : Nat) : Int)) ?_ (hr := (Go.Vg.wrap_u8 z).trans (by omega))
  refine GL.cons (Step.indexSk tb (l := lenTab) (c := none) z rfl ?_ (Op1.of rfl (fun _ => rfl)) rfl (fun _ => ⟨rfl, by rw [lenTab_len]; exact hz⟩) rfl ?_)
  · exact Op1.of (cx := none) (by kernel_rfl) (fun _ => rfl)
  refine sCu tb ?_
  rw [lenTab_at ⟨z, hz⟩]
  refine sAd tb (r := ((bl z + k : Nat) : Int)) ?_ (hp := (wrap_i64 (n := ((k : Nat) : Int) + ((bl z : Nat) : Int)) (by omega) (by omega)).trans (by omega))
  refine rn ?_
  refine G.ret1 rfl rfl rfl rfl ?_
  exact ⟨rfl, rfl⟩
theorem of_ok (n : Nat) (w : World) (hn : n < 2 ^ 64) : Ret Tryz.prog 179 ⟨[.int .u64 n]⟩ w fun r w' => ∃ l, Nt w' r l ∧ vL (2 ^ 32) l = n ∧ l.length ≤ 2 ∧ Ext w w' := by
  refine ret_of_G Tryz.func179 rfl Tryz.ntmps179 rfl ?_
  simp only [argEnv]
  refine rn ?_
  refine sCv tb (r := ((n % 2 ^ 32 : Nat) : Int)) ?_ (hr := by rw [wrap_u32m]; omega)
  refine rn ?_
  refine sShr (n := 32) (shr_nat n 32) ?_
  refine sCv tb (r := ((n / 2 ^ 32 : Nat) : Int)) ?_ (hr := by rw [wrap_u32m]; omega)
  refine sBs' tb ([n % 2 ^ 32, n / 2 ^ 32].map u32C) (fun us W1 ho1 hs1 hx1 => ?_) (hkl := by simp [u32C])
  refine rn ?_
  refine sCall c194 (trim_ok us _ W1 ho1.sli) ?_
  rintro r _ ⟨hr, rfl⟩
  refine rn ?_
  refine G.ret1 rfl rfl rfl rfl ?_
  have hlt : ∀ x ∈ [n % 2 ^ 32, n / 2 ^ 32], x < 2 ^ 32 := fun x hx => by
    simp only [List.mem_cons, List.not_mem_nil, or_false] at hx
    rcases hx with rfl | rfl <;> omega
  refine ⟨_, ⟨hr, trimN_nrm hlt⟩, ?_, Nat.le_trans (trimN_len _) (by simp), hx1⟩
  rw [trimN_val]
  simp only [vL]
  omega
theorem size_ok (v : Value) (l : List Nat) (w : World) (hv : Nt w v l) (hl : l.length ≤ 1000000) : Ret Tryz.prog 181 ⟨[v]⟩ w fun r w' => r = .int .i64 (bl (vL (2 ^ 32) l)) ∧ w' = w := by
  have hvs := hv.sl
  have hll : (l.map u32C).length = l.length := List.length_map ..
  rw [← sizeL_eq hv.nr]
  unfold sizeL
  refine ret_of_G Tryz.func181 rfl Tryz.ntmps181 rfl ?_
  simp only [argEnv]
  refine rn ?_
  rw [hll]
  refine rn ?_
  first | refine G.condD rfl (fun hc => ?_) (fun hc => ?_) | refine G.condN rfl (fun hc => ?_) (fun hc => ?_) | refine G.cond rfl (fun hc => ?_) (fun hc => ?_)
  · have h0 : l = [] := List.length_eq_zero_iff.1 (by omega)
    rw [if_pos h0]
    refine rn ?_
    refine G.ret1 rfl rfl rfl rfl ?_
    exact ⟨rfl, rfl⟩
  · have h0 : l ≠ [] := fun h => hc (by rw [h]; rfl)
    rw [if_neg h0]
    have hpos := List.length_pos_iff.2 h0
    have hge : (l.map u32C)[l.length - 1]? = some (u32C (l.getLastD 0)) := by
      rw [List.getElem?_map, List.getLastD_eq_getLast?, List.getLast?_eq_getElem?, List.getElem?_eq_getElem (by omega)]; rfl
    have hxl : l.getLastD 0 < 2 ^ 32 := by
      rw [List.getLastD_eq_getLast?, List.getLast?_eq_getElem?, List.getElem?_eq_getElem (by omega)]
      exact hv.nr.lt _ (List.getElem_mem _)
    have hbl : bl (l.getLastD 0) ≤ 32 := by
      by_cases hz : l.getLastD 0 = 0
      · rw [hz]; decide
      · have := (bl_pos (show 0 < l.getLastD 0 by omega)).1
        apply Nat.le_of_not_lt
        intro hc
        have := Nat.pow_le_pow_right (show 0 < 2 by decide) (show 32 ≤ bl (l.getLastD 0) - 1 by omega)
        omega
    generalize l.getLastD 0 = x at hge hxl hbl ⊢
    refine rn ?_
    rw [hll]
    refine sAd tb (r := ((l.length - 1 : Nat) : Int)) (hp := (wrap_i64 (n := ((l.length : Nat) : Int) - 1) (by omega) (by omega)).trans (by omega)) ?_
    refine sAd tb (r := ((32 * (l.length - 1) : Nat) : Int)) (hp := (wrap_i64 (n := 32 * ((l.length - 1 : Nat) : Int)) (by omega) (by omega)).trans (by omega)) ?_
    refine rn ?_
    rw [hll]
    refine sAd tb (r := ((l.length - 1 : Nat) : Int)) (hp := (wrap_i64 (n := ((l.length : Nat) : Int) - 1) (by omega) (by omega)).trans (by omega)) ?_
    refine sIa tb (l.length - 1) ?_ (hj := fun _ => ⟨rfl, by rw [hll]; omega⟩)
    refine rn ?_
    refine sCall c174 (len32_ok x _ hxl) ?_
    rintro _ _ ⟨rfl, rfl⟩
    refine sAd tb (r := ((32 * (l.length - 1) + bl x : Nat) : Int)) (hp := (wrap_i64 (n := ((32 * (l.length - 1) : Nat) : Int) + ((bl x : Nat) : Int)) (by omega) (by omega)).trans (by omega)) ?_
    refine rn ?_
    refine G.ret1 rfl rfl rfl rfl ?_
    exact ⟨rfl, rfl⟩
def tN (m : Nat) : Nat → List Nat → List Nat
  | 0, l => l
  | k + 1, l => tN m k (timesL m 0 l)
theorem tN_val (m : Nat) : ∀ k l, vL (2 ^ 32) (tN m k l) = vL (2 ^ 32) l * m ^ k
  | 0, l => by simp [tN]
  | k + 1, l => by rw [tN, tN_val m k, timesL_val, Nat.add_zero, show m ^ (k + 1) = m ^ k * m from rfl, Nat.mul_assoc, Nat.mul_comm m]
theorem tN_len (m : Nat) : ∀ k l, (tN m k l).length ≤ l.length + k
  | 0, _ => Nat.le_refl _
  | k + 1, l => by
    have h1 := tN_len m k (timesL m 0 l)
    have h2 := timesL_len m 0 l
    rw [tN]; omega
def tensL (n : Nat) (l : List Nat) : List Nat := tN 10 (n % 9) (tN 1000000000 (n / 9) l)
theorem tensL_val (n : Nat) (l : List Nat) : vL (2 ^ 32) (tensL n l) = vL (2 ^ 32) l * 10 ^ n := by
  unfold tensL
  rw [tN_val, tN_val, Nat.mul_assoc]
  congr 1
  rw [show 1000000000 = 10 ^ 9 from rfl, ← Nat.pow_mul, ← Nat.pow_add]
  congr 1
  omega
theorem tensL_len (n : Nat) (l : List Nat) : (tensL n l).length ≤ l.length + n := by
  have h1 := tN_len 10 (n % 9) (tN 1000000000 (n / 9) l)
  have h2 := tN_len 1000000000 (n / 9) l
  unfold tensL; omega
set_option maxHeartbeats 1000000 in
theorem tens_ok (v : Value) (l : List Nat) (n : Nat) (w : World) (hv : Nt w v l) (hl : l.length ≤ 10000) (hn : n ≤ 10000) :
    Ret Tryz.prog 180 ⟨[v, .int .i64 n]⟩ w fun r w' => Nt w' r (tensL n l) ∧ Ext w w' := by
  refine ret_of_G Tryz.func180 rfl Tryz.ntmps180 rfl ?_
  simp only [argEnv]
  refine rn ?_
  refine (G.loop (fun x : Nat × List Nat × Value => [(0, none, x.2.2), (1, none, .int .i64 ((9 * x.1 + n % 9 : Nat) : Int))]) (fun x W => Ext w W ∧ Nt W x.2.2 x.2.1 ∧ tN 1000000000 x.1 x.2.1 = tN 1000000000 (n / 9) l ∧ x.1 ≤ n / 9 ∧ x.2.1.length + x.1 ≤ l.length + n / 9) (fun x => x.1) (n / 9, l, v) ?_ ⟨Ext.refl _, hv, rfl, Nat.le_refl _, Nat.le_refl _⟩ ?_)
  · rw [show 9 * (n / 9) + n % 9 = n by omega]; exact (by repeat (first | exact Sub.nil _ | refine Sub.cons rfl ?_))
  rintro ⟨k, m, u⟩ W ⟨hx, hu, ht, hk, hml⟩
  simp only at hu ht hk hml
  show G _ _ [(0, none, u), (1, none, .int .i64 ((9 * k + n % 9 : Nat) : Int))] W
  have hr9 := Nat.mod_lt n (show 0 < 9 by decide)
  refine rn ?_
  first | refine G.condD rfl (fun hc => ?_) (fun hc => ?_) | refine G.condN rfl (fun hc => ?_) (fun hc => ?_) | refine G.cond rfl (fun hc => ?_) (fun hc => ?_)
  · obtain ⟨k, rfl⟩ : ∃ j, k = j + 1 := ⟨k - 1, by omega⟩
    rw [tN] at ht
    have htl := timesL_len 1000000000 0 m
    refine rn ?_
    refine sCall c178 (times_ok u m 1000000000 0 W hu (by omega) (by decide) (by decide)) ?_
    rintro u2 W2 ⟨hu2, hx2⟩
    refine rn ?_
    refine sAd tb (r := ((9 * k + n % 9 : Nat) : Int)) (hp := (wrap_i64 (n := ((9 * (k + 1) + n % 9 : Nat) : Int) - 9) (by omega) (by omega)).trans (by omega)) ?_
    refine rn ?_
    exact G.lp (x := (k + 1, m, u)) (k, timesL 1000000000 0 m, u2) (by repeat (first | exact Sub.nil _ | refine Sub.cons rfl ?_)) ⟨hx.trans hx2, hu2, ht, by simp only; omega, by simp only; omega⟩ (by simp only; omega)
  · have hk0 : k = 0 := by omega
    subst hk0
    have ht : m = tN 1000000000 (n / 9) l := ht
    rw [Nat.mul_zero, Nat.zero_add]
    refine rn ?_
    refine (G.loop (fun x : Nat × List Nat × Value => [(0, none, x.2.2), (1, none, .int .i64 ((x.1 : Nat) : Int))]) (fun x W => Ext w W ∧ Nt W x.2.2 x.2.1 ∧ tN 10 x.1 x.2.1 = tN 10 (n % 9) m ∧ x.1 ≤ n % 9 ∧ x.2.1.length + x.1 ≤ l.length + n / 9 + 9) (fun x => x.1) (n % 9, m, u) (by repeat (first | exact Sub.nil _ | refine Sub.cons rfl ?_)) ⟨hx, hu, rfl, Nat.le_refl _, by simp only; omega⟩ ?_)
    clear hx hu
    rintro ⟨j, q, u⟩ W ⟨hx, hu, htq, hj, hql⟩
    simp only at hu htq hj hql
    show G _ _ [(0, none, u), (1, none, .int .i64 ((j : Nat) : Int))] W
    refine rn ?_
    first | refine G.condD rfl (fun hc => ?_) (fun hc => ?_) | refine G.condN rfl (fun hc => ?_) (fun hc => ?_) | refine G.cond rfl (fun hc => ?_) (fun hc => ?_)
    · obtain ⟨j, rfl⟩ : ∃ i, j = i + 1 := ⟨j - 1, by omega⟩
      rw [tN] at htq
      have htl := timesL_len 10 0 q
      refine rn ?_
      refine sCall c178 (times_ok u q 10 0 W hu (by omega) (by decide) (by decide)) ?_
      rintro u2 W2 ⟨hu2, hx2⟩
      refine rn ?_
      refine sAd tb (r := ((j : Nat) : Int)) (hp := (wrap_i64 (n := ((j + 1 : Nat) : Int) - 1) (by omega) (by omega)).trans (by omega)) ?_
      refine rn ?_
      exact G.lp (x := (j + 1, q, u)) (j, timesL 10 0 q, u2) (by repeat (first | exact Sub.nil _ | refine Sub.cons rfl ?_)) ⟨hx.trans hx2, hu2, htq, by simp only; omega, by simp only; omega⟩ (by simp only; omega)
    · have hj0 : j = 0 := by omega
      subst hj0
      have htq : q = tN 10 (n % 9) m := htq
      refine rn ?_
      refine G.ret1 rfl rfl rfl rfl ?_
      refine ⟨?_, hx⟩
      unfold tensL
      rw [← ht, ← htq]
      exact hu
end Go.Proofs.YtcngoccnfmhhnaaGreatDoor
end
section
open Go Go.Vg Go.RowKit Go.Proofs Go.Proofs.YtcngoccnfmhhnaaGreatDoor
namespace Go.Proofs.YtcngoccnfmhhnaaGreatDoor
open Go.Nm

theorem or_low (a b k : Nat) (hb : b < 2 ^ k) (hab : 2 ^ k * a + b < 2 ^ 32) : bits .or .u32 ((2 ^ k * a : Nat) : Int) (b : Int) = ((2 ^ k * a + b : Nat) : Int) := by
  have h1 : BitVec.ofInt 32 ((2 ^ k * a : Nat) : Int) = BitVec.ofNat 32 (2 ^ k * a) := BitVec.ofInt_natCast ..
  have h2 : BitVec.ofInt 32 (b : Int) = BitVec.ofNat 32 b := BitVec.ofInt_natCast ..
  have h3 : (BitVec.ofNat 32 (2 ^ k * a) ||| BitVec.ofNat 32 b).toNat = 2 ^ k * a + b := by
    rw [BitVec.toNat_or, BitVec.toNat_ofNat, BitVec.toNat_ofNat, Nat.mod_eq_of_lt (by omega), Nat.mod_eq_of_lt (by omega)]
    exact (Nat.two_pow_add_eq_or_of_lt hb a).symm
  show IntKind.u32.wrap ((BitVec.ofInt 32 ((2 ^ k * a : Nat) : Int) ||| BitVec.ofInt 32 (b : Int)).toNat : Int) = _
  rw [h1, h2, h3, wrap_u32m]
  omega
/-- a digit shifted, and what is carried -/
theorem shl_parts {x s c : Nat} (hx : x < 2 ^ 32) (hs : s < 32) (hc : c < 2 ^ s) : (x * 2 ^ s + c) / 2 ^ 32 = x / 2 ^ (32 - s) ∧ (x * 2 ^ s) / 2 ^ 32 = x / 2 ^ (32 - s) ∧
    (x * 2 ^ s + c) % 2 ^ 32 = 2 ^ s * (x % 2 ^ (32 - s)) + c ∧ (x * 2 ^ s) % 2 ^ 32 = 2 ^ s * (x % 2 ^ (32 - s)) ∧ x / 2 ^ (32 - s) < 2 ^ s := by
  have e32 : (2 : Nat) ^ 32 = 2 ^ s * 2 ^ (32 - s) := by rw [← Nat.pow_add]; congr 1; omega
  have ht := Nat.two_pow_pos (32 - s)
  have hd := Nat.div_add_mod x (2 ^ (32 - s))
  have hm := Nat.mod_lt x ht
  have e : x * 2 ^ s = 2 ^ 32 * (x / 2 ^ (32 - s)) + 2 ^ s * (x % 2 ^ (32 - s)) := by
    conv => lhs; rw [← hd]
    rw [Nat.add_mul, e32, Nat.mul_comm (2 ^ (32 - s) * _) (2 ^ s), Nat.mul_assoc, Nat.mul_comm (x % 2 ^ (32 - s))]
  have hlow : 2 ^ s * (x % 2 ^ (32 - s)) + 2 ^ s ≤ 2 ^ 32 := by
    have : 2 ^ s * (x % 2 ^ (32 - s) + 1) ≤ 2 ^ s * 2 ^ (32 - s) := Nat.mul_le_mul_left _ hm
    rw [Nat.mul_add, Nat.mul_one, ← e32] at this
    exact this
  have hq : x / 2 ^ (32 - s) < 2 ^ s := by
    apply Nat.div_lt_of_lt_mul
    rw [Nat.mul_comm, ← e32]; exact hx
  generalize x / 2 ^ (32 - s) = q at *
  generalize 2 ^ s * (x % 2 ^ (32 - s)) = r at *
  rw [e]
  refine ⟨?_, ?_, ?_, ?_, hq⟩ <;> omega
set_option maxHeartbeats 2000000 in
theorem up_ok (v : Value) (l : List Nat) (n : Nat) (w : World) (hv : Nt w v l) (hl : l.length ≤ 100000) (hn : n ≤ 100000) :
    Ret Tryz.prog 182 ⟨[v, .int .i64 n]⟩ w fun r w' => Nt w' r (upL n l) ∧ Ext w w' := by
  have hvs := hv.sl
  have hll : (l.map u32C).length = l.length := List.length_map ..
  have hq : ((n : Nat) : Int).tdiv 32 = ((n / 32 : Nat) : Int) := (Int.tdiv_eq_ediv_of_nonneg (by omega)).trans (by omega)
  have hr : ((n : Nat) : Int).tmod 32 = ((n % 32 : Nat) : Int) := (Int.tmod_eq_emod_of_nonneg (by omega)).trans (by omega)
  have hs32 := Nat.mod_lt n (show 0 < 32 by decide)
  refine ret_of_G Tryz.func182 rfl Tryz.ntmps182 rfl ?_
  simp only [argEnv]
  refine rn ?_
  refine sQuo (r := ((n / 32 : Nat) : Int)) (by rw [hq]; exact wrap_i64 (by omega) (by omega)) ?_
  refine rn ?_
  refine sQuo (r := ((n / 32 : Nat) : Int)) (by rw [hq]; exact wrap_i64 (by omega) (by omega)) ?_
  refine rn ?_
  rw [hll]
  refine sAd tb (r := ((n / 32 + l.length : Nat) : Int)) ?_ (hp := (wrap_i64 (n := ((n / 32 : Nat) : Int) + ((l.length : Nat) : Int)) (by omega) (by omega)).trans (by omega))
  refine sAd tb (r := ((n / 32 + l.length + 1 : Nat) : Int)) ?_
  refine GL.cons (Step.make2 tb (z := .int .u32 0) (bytes := 4) (n / 32) (n / 32 + l.length + 1) rfl (Op1.of rfl (fun _ => rfl)) (Op1.of rfl (fun _ => rfl)) ⟨rfl, rfl, by omega⟩ rfl rfl rfl (by omega) (by omega) rfl (fun ov W1 ho1 hs1 hx1 _ => ?_))
  have ho1' : Owns W1 w.heap.size ov 159 1 ((List.replicate (n / 32) 0 ++ (mulR (2 ^ 32) (2 ^ (n % 32)) (l.take 0) 0).1).map u32C) := by
    have : (List.replicate (n / 32) 0 ++ (mulR (2 ^ 32) (2 ^ (n % 32)) (l.take 0) 0).1).map u32C = (List.replicate (n / 32) (Value.int .u32 0)).map fun u => [u] := by simp [u32C, mulR]
    rw [this]; exact ho1
  refine rn ?_
  rw [hll]
  refine (G.loop (fun x : Nat × Value => [(0, none, v), (1, none, .int .i64 n), (5, none, x.2), (6, none, .int .u32 ((mulR (2 ^ 32) (2 ^ (n % 32)) (l.take x.1) 0).2 : Nat)), (19, none, v), (20, none, .int .i64 l.length), (21, none, .int .i64 x.1)])
    (fun x W => Ext w W ∧ Owns W w.heap.size x.2 159 1 ((List.replicate (n / 32) 0 ++ (mulR (2 ^ 32) (2 ^ (n % 32)) (l.take x.1) 0).1).map u32C) ∧ x.1 ≤ l.length ∧ (mulR (2 ^ 32) (2 ^ (n % 32)) (l.take x.1) 0).2 < 2 ^ (n % 32)) (fun x => l.length - x.1) (0, ov) (by repeat (first | exact Sub.nil _ | refine Sub.cons rfl ?_)) ⟨hx1, ho1', Nat.zero_le _, Nat.two_pow_pos _⟩ ?_)
  clear ho1 ho1' hx1 hs1
  rintro ⟨i, u⟩ W ⟨hx, ho, hi, hcb⟩
  simp only at ho hi hcb
  have hvW := hvs.to hx
  have hrl := mulR_len (2 ^ 32) (2 ^ (n % 32)) (l.take i) 0
  rw [List.length_take, Nat.min_eq_left hi] at hrl
  have hol : ((List.replicate (n / 32) 0 ++ (mulR (2 ^ 32) (2 ^ (n % 32)) (l.take i) 0).1).map u32C).length = n / 32 + i := by rw [List.length_map, List.length_append, hrl, List.length_replicate]
  show G _ _ [(0, none, v), (1, none, .int .i64 n), (5, none, u), (6, none, .int .u32 ((mulR (2 ^ 32) (2 ^ (n % 32)) (l.take i) 0).2 : Nat)), (19, none, v), (20, none, .int .i64 l.length), (21, none, .int .i64 i)] W
  have hxw := hx.size
  refine rn ?_
  first | refine G.condD rfl (fun hc => ?_) (fun hc => ?_) | refine G.condN rfl (fun hc => ?_) (fun hc => ?_) | refine G.cond rfl (fun hc => ?_) (fun hc => ?_)
  · have hlt : i < l.length := by omega
    have hget : (l.map u32C)[i]? = some (u32C l[i]) := by rw [List.getElem?_map, List.getElem?_eq_getElem hlt]; rfl
    have hxl := hv.nr.lt l[i] (List.getElem_mem hlt)
    have hst := mulR_take (2 ^ 32) (2 ^ (n % 32)) l 0 i hlt
    generalize l[i] = x at hget hxl hst
    generalize hR : (mulR (2 ^ 32) (2 ^ (n % 32)) (l.take i) 0) = R at *
    obtain ⟨row, k⟩ := R
    simp only at hcb hrl hol hst ho ⊢
    obtain ⟨p1, p2, p3, p4, p5⟩ := shl_parts hxl hs32 hcb
    have hxm : x * 2 ^ (n % 32) < 2 ^ 64 := by
      have h1 : x * 2 ^ (n % 32) ≤ x * 2 ^ 32 := Nat.mul_le_mul_left _ (pow32 n)
      omega
    have hpw : ((x : Nat) : Int) * 2 ^ (n % 32) = ((x * 2 ^ (n % 32) : Nat) : Int) := by rw [Int.natCast_mul, Int.natCast_pow]; rfl
    refine rn ?_
    refine sIa tb i ?_ (hj := fun _ => ⟨rfl, by rw [hll]; exact hlt⟩)
    refine rn ?_
    refine sCv tb (r := ((x : Nat) : Int)) ?_ (hr := wrap_u64 (by omega) (by omega))
    refine rn ?_
    refine sRem hr ?_
    refine GL.cons (Step.shl (n := n % 32) (r := ((x * 2 ^ (n % 32) : Nat) : Int)) rfl (Op1.of rfl (by first | exact fun _ => rfl | exact fun h => h | exact fun h => bL h | exact fun h => bL (bL h) | exact fun h => bL (bL (bL h)))) (Op1.of rfl (by first | exact fun _ => rfl | exact fun h => h | exact fun h => bL h | exact fun h => bL (bL h) | exact fun h => bL (bL (bL h)))) (by rw [hpw]; exact wrap_u64 (by omega) (by omega)) (by show n % 32 ≤ 64; omega) rfl ?_)
    refine rn ?_
    refine sCv tb (r := ((2 ^ (n % 32) * (x % 2 ^ (32 - n % 32)) : Nat) : Int)) ?_ (hr := by rw [wrap_u32m, ← p4]; omega)
    refine rn ?_
    rw [or_low (x % 2 ^ (32 - n % 32)) k (n % 32) hcb (by omega), ← p3]
    refine sBs' tb ([(x * 2 ^ (n % 32) + k) % 2 ^ 32].map u32C) (fun us W2 ho2 hs2 hx2 => ?_) (hkl := by simp [u32C])
    have hx2s := hx2.size
    refine sApp tb (ho.to hx2) ho2.sli (fun u3 W3 ho3 hg3 => ?_) (h1 := u32_one [_]) (hb := by rw [hol]; simp only [List.length_map, List.length_cons, List.length_nil]; omega) (hl := by rw [hol]; simp only [List.length_map, List.length_cons, List.length_nil]; omega)
    have hx3 : Ext w W3 := hg3.below w (hx.trans hx2)
    refine rn ?_
    refine sShr (n := 32) (shr_nat (x * 2 ^ (n % 32)) 32) ?_
    refine sCv tb (r := (((x * 2 ^ (n % 32) + k) / 2 ^ 32 : Nat) : Int)) ?_ (hr := by rw [wrap_u32m, p1, p2]; have := pow32 n; omega)
    refine rn ?_
    refine sAd tb (r := ((i + 1 : Nat) : Int)) ?_
    refine rn ?_
    refine G.lp (x := (i, u)) (i + 1, u3) ?_ ⟨hx3, ?_, by simp only; omega, ?_⟩ (by simp only; omega)
    · rw [hst]; exact (by repeat (first | exact Sub.nil _ | refine Sub.cons rfl ?_))
    · simp only
      rw [hst]
      rw [← List.map_append, List.append_assoc] at ho3
      exact ho3
    · simp only
      rw [hst]
      simp only
      rw [p1]; exact p5
  · have hie : i = l.length := by omega
    subst hie
    rw [List.take_length] at ho hrl hol hcb ⊢
    generalize hR : (mulR (2 ^ 32) (2 ^ (n % 32)) l 0) = R at *
    obtain ⟨row, k⟩ := R
    simp only at hcb hrl hol ho ⊢
    refine rn ?_
    refine sBs' tb ([k].map u32C) (fun us W2 ho2 hs2 hx2 => ?_) (hkl := by simp [u32C])
    have hx2s := hx2.size
    refine sApp tb (ho.to hx2) ho2.sli (fun u3 W3 ho3 hg3 => ?_) (h1 := u32_one [_]) (hb := by rw [hol]; simp only [List.length_map, List.length_cons, List.length_nil]; omega) (hl := by rw [hol]; simp only [List.length_map, List.length_cons, List.length_nil]; omega)
    have hx3 : Ext w W3 := hg3.below w (hx.trans hx2)
    rw [← List.map_append, List.append_assoc] at ho3
    refine rn ?_
    refine sCall c194 (trim_ok u3 _ W3 ho3.sli) ?_
    rintro r _ ⟨hr, rfl⟩
    refine rn ?_
    refine G.ret1 rfl rfl rfl rfl ?_
    refine ⟨⟨?_, upL_nrm hv.nr⟩, hx3⟩
    unfold upL upR
    rw [hR]
    exact hr
end Go.Proofs.YtcngoccnfmhhnaaGreatDoor
end
section
open Go Go.Vg Go.RowKit Go.Proofs Go.Proofs.YtcngoccnfmhhnaaGreatDoor
namespace Go.Proofs.YtcngoccnfmhhnaaGreatDoor
open Go.Nm

theorem wrap_u64m (n : Int) : IntKind.u64.wrap n = n % 18446744073709551616 := rfl
set_option maxHeartbeats 2000000 in
theorem less_ok (v u : Value) (l m : List Nat) (w : World) (hv : Nt w v l) (hu : Nt w u m) (hl : l.length ≤ 1000000) (hm : m.length ≤ l.length) :
    Ret Tryz.prog 184 ⟨[v, u]⟩ w fun r w' => Nt w' r (lessL l m) ∧ Ext w w' := by
  have hvs := hv.sl
  have hus := hu.sl
  have hll : (l.map u32C).length = l.length := List.length_map ..
  have hml : (m.map u32C).length = m.length := List.length_map ..
  have hsb : ∀ i, subB (2 ^ 32) l m i ≤ 1 := fun i => by
    cases i with
    | zero => exact Nat.zero_le _
    | succ i => rw [subB]; split <;> omega
  refine ret_of_G Tryz.func184 rfl Tryz.ntmps184 rfl ?_
  simp only [argEnv]
  refine rn ?_
  rw [hll]
  refine sMkS tb (z := .int .u32 0) (bytes := 4) (m := ((l.length : Nat) : Int)) l.length (fun ov W1 ho1 hs1 hx1 _ => ?_)
  have ho1' : Owns W1 w.heap.size ov 159 1 (((List.range 0).map (subD (2 ^ 32) l m) ++ List.replicate (l.length - 0) 0).map u32C) := by
    have : ((List.range 0).map (subD (2 ^ 32) l m) ++ List.replicate (l.length - 0) 0).map u32C = (List.replicate l.length (Value.int .u32 0)).map fun u => [u] := by simp [u32C]
    rw [this]; exact ho1
  refine rn ?_
  rw [hll]
  refine (G.loop (fun i : Nat => [(1, none, u), (5, none, ov), (6, none, .int .u64 (subB (2 ^ 32) l m i : Nat)), (13, none, v), (14, none, .int .i64 l.length), (15, none, .int .i64 i)])
    (fun i W => Ext w W ∧ Owns W w.heap.size ov 159 1 (((List.range i).map (subD (2 ^ 32) l m) ++ List.replicate (l.length - i) 0).map u32C) ∧ i ≤ l.length) (fun i => l.length - i) 0 (by repeat (first | exact Sub.nil _ | refine Sub.cons rfl ?_)) ⟨hx1, ho1', Nat.zero_le _⟩ ?_)
  clear ho1 ho1' hx1 hs1
  rintro i W ⟨hx, ho, hi⟩
  have hvW := hvs.to hx
  have huW := hus.to hx
  have hol : (((List.range i).map (subD (2 ^ 32) l m) ++ List.replicate (l.length - i) 0).map u32C).length = l.length := by rw [List.length_map, List.length_append, List.length_map, List.length_range, List.length_replicate]; omega
  refine rn ?_
  first | refine G.condD rfl (fun hc => ?_) (fun hc => ?_) | refine G.condN rfl (fun hc => ?_) (fun hc => ?_) | refine G.cond rfl (fun hc => ?_) (fun hc => ?_)
  · have hlt : i < l.length := by omega
    have hget : (l.map u32C)[i]? = some (u32C (l.getD i 0)) := by rw [List.getElem?_map, List.getElem?_eq_getElem hlt, List.getD_eq_getElem?_getD, List.getElem?_eq_getElem hlt]; rfl
    have hxl : l.getD i 0 < 2 ^ 32 := by rw [List.getD_eq_getElem?_getD, List.getElem?_eq_getElem hlt]; exact hv.nr.lt _ (List.getElem_mem hlt)
    have hyl : m.getD i 0 < 2 ^ 32 := by
      rw [List.getD_eq_getElem?_getD]
      by_cases hc2 : i < m.length
      · rw [List.getElem?_eq_getElem hc2]; exact hu.nr.lt _ (List.getElem_mem hc2)
      · rw [List.getElem?_eq_none (by omega)]; decide
    have hk1 := hsb i
    have hsD : subD (2 ^ 32) l m i = if m.getD i 0 + subB (2 ^ 32) l m i ≤ l.getD i 0 then l.getD i 0 - (m.getD i 0 + subB (2 ^ 32) l m i) else 2 ^ 32 + l.getD i 0 - (m.getD i 0 + subB (2 ^ 32) l m i) := rfl
    have hsS : subB (2 ^ 32) l m (i + 1) = if m.getD i 0 + subB (2 ^ 32) l m i ≤ l.getD i 0 then 0 else 1 := rfl
    have hmg : i < m.length → (m.map u32C)[i]? = some (u32C (m.getD i 0)) := fun hc2 => by rw [List.getElem?_map, List.getElem?_eq_getElem hc2, List.getD_eq_getElem?_getD, List.getElem?_eq_getElem hc2]; rfl
    have hm0 : ¬ i < m.length → m.getD i 0 = 0 := fun hc2 => by rw [List.getD_eq_getElem?_getD, List.getElem?_eq_none (by omega)]; rfl
    generalize l.getD i 0 = x at *
    generalize m.getD i 0 = y at *
    generalize subB (2 ^ 32) l m i = k at *
    refine rn ?_
    refine sIa tb i ?_ (hj := fun _ => ⟨rfl, by rw [hll]; exact hlt⟩)
    refine rn ?_
    refine sCv tb (r := ((x : Nat) : Int)) ?_ (hr := wrap_u64 (by omega) (by omega))
    refine rn ?_
    refine GL.cons (Step.arith (k := .u64) (a := ((x : Nat) : Int)) (b := ((k : Nat) : Int)) (r := (((x : Nat) : Int) - k) % 18446744073709551616) rfl (Op1.of rfl (by first | exact fun _ => rfl | exact fun h => h | exact fun h => bL h | exact fun h => bL (bL h) | exact fun h => bL (bL (bL h)))) (Op1.of rfl (by first | exact fun _ => rfl | exact fun h => h | exact fun h => bL h | exact fun h => bL (bL h) | exact fun h => bL (bL (bL h)))) (wrap_u64m _) rfl ?_)
    refine rn ?_
    rw [hml]
    refine rn ?_
    refine G.join (fun _ : Unit => [(1, none, u), (5, none, ov), (7, none, .int .i64 i), (9, none, .int .u64 ((((x : Nat) : Int) - k - y) % 18446744073709551616)), (13, none, v), (14, none, .int .i64 l.length), (15, none, .int .i64 i)]) (fun _ W2 => W2 = W) ?_ ?_
    rotate_left
    · first | refine G.condD rfl (fun hc => ?_) (fun hc => ?_) | refine G.condN rfl (fun hc => ?_) (fun hc => ?_) | refine G.cond rfl (fun hc => ?_) (fun hc => ?_)
      · have hc2 : i < m.length := by omega
        have hmg := hmg hc2
        refine rn ?_
        refine sIa tb i ?_ (hj := fun _ => ⟨rfl, by rw [hml]; exact hc2⟩)
        refine rn ?_
        refine sCv tb (r := ((y : Nat) : Int)) ?_ (hr := wrap_u64 (by omega) (by omega))
        refine GL.cons (Step.arith (k := .u64) (a := (((x : Nat) : Int) - k) % 18446744073709551616) (b := ((y : Nat) : Int)) (r := (((x : Nat) : Int) - k - y) % 18446744073709551616) rfl (Op1.of rfl (by first | exact fun _ => rfl | exact fun h => h | exact fun h => bL h | exact fun h => bL (bL h) | exact fun h => bL (bL (bL h)))) (Op1.of rfl (by first | exact fun _ => rfl | exact fun h => h | exact fun h => bL h | exact fun h => bL (bL h) | exact fun h => bL (bL (bL h)))) ((wrap_u64m _).trans (by omega)) rfl ?_)
        refine rn ?_
        exact G.met () (by repeat (first | exact Sub.nil _ | refine Sub.cons rfl ?_)) rfl
      · have hy0 := hm0 (by omega)
        subst hy0
        rw [show (((x : Nat) : Int) - k) % 18446744073709551616 = (((x : Nat) : Int) - k - ((0 : Nat) : Int)) % 18446744073709551616 by omega]
        refine rn ?_
        exact G.met () (by repeat (first | exact Sub.nil _ | refine Sub.cons rfl ?_)) rfl
    rintro _ W0 hW0
    subst hW0
    have how := ho.sli
    refine rn ?_
    refine sCv tb (r := ((subD (2 ^ 32) l m i : Nat) : Int)) ?_ (hr := by rw [wrap_u32m, hsD]; split <;> omega)
    refine sIa tb i ?_ (hj := fun _ => ⟨rfl, by rw [hol]; exact hlt⟩)
    refine sStR tb (j := i) (vs := u32C (subD (2 ^ 32) l m i)) ho (by rw [hol]; exact hlt) (fun W2 ho2 hg2 => ?_) (h1 := u32_one [_] _ (List.mem_cons_self ..))
    have hx2 : Ext w W2 := hg2.below w hx
    refine rn ?_
    have hsh : (((x : Nat) : Int) - k - y) % 18446744073709551616 / 2 ^ 63 = ((subB (2 ^ 32) l m (i + 1) : Nat) : Int) := by
      rw [hsS]
      show _ / 9223372036854775808 = _
      split <;> omega
    refine sShr (n := 63) hsh ?_
    refine rn ?_
    refine sAd tb (r := ((i + 1 : Nat) : Int)) ?_
    refine rn ?_
    refine G.lp (x := i) (i + 1) (by repeat (first | exact Sub.nil _ | refine Sub.cons rfl ?_)) ⟨hx2, ?_, by omega⟩ (by omega)
    rw [← List.map_set, show l.length - i = (l.length - (i + 1)) + 1 by omega, set_fill _ _ _ (by simp)] at ho2
    have e : (List.range (i + 1)).map (subD (2 ^ 32) l m) = (List.range i).map (subD (2 ^ 32) l m) ++ [subD (2 ^ 32) l m i] := by rw [List.range_succ, List.map_append]; rfl
    rw [e]
    exact ho2
  · have hie : i = l.length := by omega
    subst hie
    rw [Nat.sub_self, List.replicate_zero, List.append_nil] at ho
    refine rn ?_
    refine sCall c194 (trim_ok ov _ W ho.sli) ?_
    rintro r _ ⟨hr, rfl⟩
    refine rn ?_
    refine G.ret1 rfl rfl rfl rfl ?_
    refine ⟨⟨?_, lessL_nrm hv.nr hu.nr hm⟩, hx⟩
    unfold lessL
    rw [subR_map]
    exact hr
set_option maxHeartbeats 2000000 in
theorem against_ok (v u : Value) (l m : List Nat) (w : World) (hv : Nt w v l) (hu : Nt w u m) (hl : l.length ≤ 1000000) :
    Ret Tryz.prog 183 ⟨[v, u]⟩ w fun r w' => r = .int .i64 (cmpV (vL (2 ^ 32) l) (vL (2 ^ 32) m)) ∧ Ext w w' := by
  have hvs := hv.sl
  have hus := hu.sl
  have hll : (l.map u32C).length = l.length := List.length_map ..
  have hml : (m.map u32C).length = m.length := List.length_map ..
  refine ret_of_G Tryz.func183 rfl Tryz.ntmps183 rfl ?_
  simp only [argEnv]
  refine rn ?_
  rw [hll, hml]
  refine rn ?_
  first | refine G.condD rfl (fun hc => ?_) (fun hc => ?_) | refine G.condN rfl (fun hc => ?_) (fun hc => ?_) | refine G.cond rfl (fun hc => ?_) (fun hc => ?_)
  · have hlt : vL (2 ^ 32) l < vL (2 ^ 32) m := hv.nr.len_lt (by decide) hu.nr (by omega)
    have hc1 : cmpV (vL (2 ^ 32) l) (vL (2 ^ 32) m) = -1 := by unfold cmpV; rw [if_pos hlt]
    rw [hc1]
    refine rn ?_
    refine G.ret1 rfl rfl rfl rfl ?_
    exact ⟨rfl, Ext.refl _⟩
  refine rn ?_
  rw [hll, hml]
  refine rn ?_
  first | refine G.condD rfl (fun hc => ?_) (fun hc => ?_) | refine G.condN rfl (fun hc => ?_) (fun hc => ?_) | refine G.cond rfl (fun hc => ?_) (fun hc => ?_)
  · have hlt : vL (2 ^ 32) m < vL (2 ^ 32) l := hu.nr.len_lt (by decide) hv.nr (by omega)
    have hc1 : cmpV (vL (2 ^ 32) l) (vL (2 ^ 32) m) = 1 := by unfold cmpV; rw [if_neg (by omega), if_pos hlt]
    rw [hc1]
    refine rn ?_
    refine G.ret1 rfl rfl rfl rfl ?_
    exact ⟨rfl, Ext.refl _⟩
  have hlm : l.length = m.length := by omega
  refine rn ?_
  rw [hll]
  refine sAd tb (r := ((l.length : Nat) : Int) - 1) (hp := wrap_i64 (n := ((l.length : Nat) : Int) - 1) (by omega) (by omega)) ?_
  refine rn ?_
  refine (G.loop (fun k : Nat => [(0, none, v), (1, none, u), (5, none, .int .i64 ((k : Nat) - 1 : Int))]) (fun k W => Ext w W ∧ k ≤ l.length ∧ l.drop k = m.drop k) (fun k => k) l.length (by repeat (first | exact Sub.nil _ | refine Sub.cons rfl ?_)) ⟨Ext.refl _, Nat.le_refl _, by rw [List.drop_length, hlm, List.drop_length]⟩ ?_)
  rintro k W ⟨hx, hk, hd⟩
  have hvW := hvs.to hx
  have huW := hus.to hx
  refine rn ?_
  first | refine G.condD rfl (fun hc => ?_) (fun hc => ?_) | refine G.condN rfl (fun hc => ?_) (fun hc => ?_) | refine G.cond rfl (fun hc => ?_) (fun hc => ?_)
  · obtain ⟨j, rfl⟩ : ∃ j, k = j + 1 := ⟨k - 1, by omega⟩
    have hj1 : j < l.length := by omega
    have hj2 : j < m.length := by omega
    have hg1 : (l.map u32C)[j]? = some (u32C l[j]) := by rw [List.getElem?_map, List.getElem?_eq_getElem hj1]; rfl
    have hg2 : (m.map u32C)[j]? = some (u32C m[j]) := by rw [List.getElem?_map, List.getElem?_eq_getElem hj2]; rfl
    have hlt1 : l[j] < m[j] → vL (2 ^ 32) l < vL (2 ^ 32) m := cmp_at hv.nr.lt hu.nr.lt hj1 hj2 hd
    have hlt2 : m[j] < l[j] → vL (2 ^ 32) m < vL (2 ^ 32) l := cmp_at hu.nr.lt hv.nr.lt hj2 hj1 hd.symm
    have hdr : l[j] = m[j] → l.drop j = m.drop j := fun h => by rw [List.drop_eq_getElem_cons hj1, List.drop_eq_getElem_cons hj2, h, hd]
    generalize l[j] = x at *
    generalize m[j] = y at *
    rw [show ((j + 1 : Nat) : Int) - 1 = ((j : Nat) : Int) by omega]
    refine rn ?_
    refine G.regionM [(0, true), (1, true), (2, true), (3, true), (4, true), (5, true), (6, true), (7, true), (8, true), (9, true)] (Ext W) (by kernel_rfl) (by kernel_rfl) rfl mixed (Ext.drew W) rfl ?_
    refine rd ?_
    refine dIa tb j ?_ (hj := fun _ => ⟨rfl, by rw [hll]; exact hj1⟩)
    refine rd ?_
    refine dIa tb j ?_ (hj := fun _ => ⟨rfl, by rw [hml]; exact hj2⟩)
    refine rd ?_
    refine GM.nil ?_
    have hx2 := hx.drew'
    first | refine G.condD rfl (fun hc => ?_) (fun hc => ?_) | refine G.condN rfl (fun hc => ?_) (fun hc => ?_) | refine G.cond rfl (fun hc => ?_) (fun hc => ?_)
    · have hlt := hlt1 (by omega)
      have hc1 : cmpV (vL (2 ^ 32) l) (vL (2 ^ 32) m) = -1 := by unfold cmpV; rw [if_pos hlt]
      rw [hc1]
      refine rn ?_
      refine G.ret1 rfl rfl rfl rfl ?_
      exact ⟨rfl, hx2⟩
    refine rn ?_
    have hvW2 := hvs.to hx2
    have huW2 := hus.to hx2
    clear hvW huW
    refine G.regionM [(0, true), (1, true), (2, true), (3, true), (4, true), (5, true), (6, true), (7, true), (8, true), (9, true)] (Ext W.drew) (by kernel_rfl) (by kernel_rfl) rfl mixed (Ext.drew W.drew) rfl ?_
    refine rd ?_
    refine dIa tb j ?_ (hj := fun _ => ⟨rfl, by rw [hll]; exact hj1⟩)
    refine rd ?_
    refine dIa tb j ?_ (hj := fun _ => ⟨rfl, by rw [hml]; exact hj2⟩)
    refine rd ?_
    refine GM.nil ?_
    have hx3 := hx2.drew'
    first | refine G.condD rfl (fun hc => ?_) (fun hc => ?_) | refine G.condN rfl (fun hc => ?_) (fun hc => ?_) | refine G.cond rfl (fun hc => ?_) (fun hc => ?_)
    · have hlt := hlt2 (by omega)
      have hc1 : cmpV (vL (2 ^ 32) l) (vL (2 ^ 32) m) = 1 := by unfold cmpV; rw [if_neg (by omega), if_pos hlt]
      rw [hc1]
      refine rn ?_
      refine G.ret1 rfl rfl rfl rfl ?_
      exact ⟨rfl, hx3⟩
    have hxy : x = y := by omega
    refine rn ?_
    refine sAd tb (r := ((j : Nat) : Int) - 1) (hp := wrap_i64 (n := ((j : Nat) : Int) - 1) (by omega) (by omega)) ?_
    refine rn ?_
    exact G.lp (x := j + 1) j (by repeat (first | exact Sub.nil _ | refine Sub.cons rfl ?_)) ⟨hx3, by omega, hdr hxy⟩ (by omega)
  · have hk0 : k = 0 := by omega
    subst hk0
    rw [List.drop_zero, List.drop_zero] at hd
    subst hd
    have hc1 : cmpV (vL (2 ^ 32) l) (vL (2 ^ 32) l) = 0 := cmpV_eq.2 rfl
    rw [hc1]
    refine rn ?_
    refine G.ret1 rfl rfl rfl rfl ?_
    exact ⟨rfl, hx⟩
end Go.Proofs.YtcngoccnfmhhnaaGreatDoor
end
section
open Go Go.Vg Go.RowKit Go.Proofs Go.Proofs.YtcngoccnfmhhnaaGreatDoor
namespace Go.Proofs.YtcngoccnfmhhnaaGreatDoor
open Go.Nm

set_option maxHeartbeats 1000000 in
theorem len64_ok (x : Nat) (w_ : World) (hx : x < 2 ^ 64) : Ret Tryz.prog 175 ⟨[.int .u64 x]⟩ w_ fun r w' => r = .int .i64 (bl x) ∧ w' = w_ := by
  refine ret_of_G Tryz.func175 rfl Tryz.ntmps175 rfl ?_
  simp only [argEnv]
  refine rn ?_
  refine G.join (fun y : Nat × Nat => [(0, none, .int .u64 y.1), (2, none, .int .i64 y.2)]) (fun y w' => w' = w_ ∧ y.1 < 4294967296 ∧ y.2 ≤ 32 ∧ bl x = bl y.1 + y.2) ?_ ?_
  rotate_left
  · first | refine G.condD rfl (fun hc => ?_) (fun hc => ?_) | refine G.condN rfl (fun hc => ?_) (fun hc => ?_) | refine G.cond rfl (fun hc => ?_) (fun hc => ?_)
    · have h16 : 4294967296 ≤ x := by omega
      refine rn ?_
      refine sShr (n := 32) (shr_nat x 32) ?_
      refine rn ?_
      exact G.met (x / 2 ^ 32, 32) (by repeat (first | exact Sub.nil _ | refine Sub.cons rfl ?_)) ⟨rfl, by simp only; omega, by simp only; omega, bl_shift h16⟩
    · refine rn ?_
      exact G.met (x, 0) (by repeat (first | exact Sub.nil _ | refine Sub.cons rfl ?_)) ⟨rfl, by simp only; omega, by simp only; omega, rfl⟩
  rintro ⟨v, k0⟩ W1 ⟨rfl, hv, hk0, hb0⟩
  simp only at hv hk0 hb0
  rw [hb0]
  show G _ _ [(0, none, .int .u64 v), (2, none, .int .i64 k0)] _
  refine rn ?_
  refine G.join (fun y : Nat × Nat => [(0, none, .int .u64 y.1), (2, none, .int .i64 y.2)]) (fun y w' => w' = W1 ∧ y.1 < 65536 ∧ y.2 ≤ 48 ∧ bl v + k0 = bl y.1 + y.2) ?_ ?_
  rotate_left
  · first | refine G.condD rfl (fun hc => ?_) (fun hc => ?_) | refine G.condN rfl (fun hc => ?_) (fun hc => ?_) | refine G.cond rfl (fun hc => ?_) (fun hc => ?_)
    · have h16 : 65536 ≤ v := by omega
      refine rn ?_
      refine sShr (n := 16) (shr_nat v 16) ?_
      refine rn ?_
      refine sAd tb (r := ((k0 + 16 : Nat) : Int)) ?_
      refine rn ?_
      exact G.met (v / 2 ^ 16, k0 + 16) (by repeat (first | exact Sub.nil _ | refine Sub.cons rfl ?_)) ⟨rfl, by simp only; omega, by simp only; omega, by have := bl_shift (x := v) (k := 16) h16; simp only; omega⟩
    · refine rn ?_
      exact G.met (v, k0) (by repeat (first | exact Sub.nil _ | refine Sub.cons rfl ?_)) ⟨rfl, by simp only; omega, by simp only; omega, rfl⟩
  rintro ⟨y, n⟩ W2 ⟨rfl, hy, hn, hb⟩
  simp only at hy hn hb
  rw [hb]
  show G _ _ [(0, none, .int .u64 y), (2, none, .int .i64 n)] _
  refine rn ?_
  refine G.join (fun y : Nat × Nat => [(0, none, .int .u64 y.1), (2, none, .int .i64 y.2)]) (fun z w' => w' = W2 ∧ z.1 < 256 ∧ z.2 ≤ 56 ∧ bl y + n = bl z.1 + z.2) ?_ ?_
  rotate_left
  · first | refine G.condD rfl (fun hc => ?_) (fun hc => ?_) | refine G.condN rfl (fun hc => ?_) (fun hc => ?_) | refine G.cond rfl (fun hc => ?_) (fun hc => ?_)
    · have h8 : 256 ≤ y := by omega
      refine rn ?_
      refine sShr (n := 8) (shr_nat y 8) ?_
      refine rn ?_
      refine sAd tb (r := ((n + 8 : Nat) : Int)) ?_
      refine rn ?_
      exact G.met (y / 2 ^ 8, n + 8) (by repeat (first | exact Sub.nil _ | refine Sub.cons rfl ?_)) ⟨rfl, by simp only; omega, by simp only; omega, by have := bl_shift (x := y) (k := 8) h8; simp only; omega⟩
    · refine rn ?_
      exact G.met (y, n) (by repeat (first | exact Sub.nil _ | refine Sub.cons rfl ?_)) ⟨rfl, by simp only; omega, by simp only; omega, rfl⟩
  rintro ⟨z, k⟩ _ ⟨rfl, hz, hk, hb2⟩
  simp only at hz hk hb2
  rw [hb2]
  show G _ _ [(0, none, .int .u64 z), (2, none, .int .i64 k)] _
  have hzb : bl z ≤ 8 := by
    by_cases h0 : z = 0
    · rw [h0]; decide
    · have := (bl_pos (show 0 < z by omega)).1
      apply Nat.le_of_not_lt
      intro hc
      have := Nat.pow_le_pow_right (show 0 < 2 by decide) (show 8 ≤ bl z - 1 by omega)
      omega
  refine rn ?_
  refine sCv tb (r := ((z : Nat) : Int)) ?_ (hr := (Go.Vg.wrap_u8 z).trans (by omega))
  refine GL.cons (Step.indexSk tb (l := lenTab) (c := none) z rfl ?_ (Op1.of rfl (fun _ => rfl)) rfl (fun _ => ⟨rfl, by rw [lenTab_len]; exact hz⟩) rfl ?_)
  · exact Op1.of (cx := none) (by kernel_rfl) (fun _ => rfl)
  refine sCu tb ?_
  rw [lenTab_at ⟨z, hz⟩]
  refine sAd tb (r := ((bl z + k : Nat) : Int)) ?_ (hp := (wrap_i64 (n := ((k : Nat) : Int) + ((bl z : Nat) : Int)) (by omega) (by omega)).trans (by omega))
  refine rn ?_
  refine G.ret1 rfl rfl rfl rfl ?_
  exact ⟨rfl, rfl⟩
theorem or_low64 (a b k : Nat) (hb : b < 2 ^ k) (hab : 2 ^ k * a + b < 2 ^ 64) : bits .or .u64 ((2 ^ k * a : Nat) : Int) (b : Int) = ((2 ^ k * a + b : Nat) : Int) := by
  have h1 : BitVec.ofInt 64 ((2 ^ k * a : Nat) : Int) = BitVec.ofNat 64 (2 ^ k * a) := BitVec.ofInt_natCast ..
  have h2 : BitVec.ofInt 64 (b : Int) = BitVec.ofNat 64 b := BitVec.ofInt_natCast ..
  have h3 : (BitVec.ofNat 64 (2 ^ k * a) ||| BitVec.ofNat 64 b).toNat = 2 ^ k * a + b := by
    rw [BitVec.toNat_or, BitVec.toNat_ofNat, BitVec.toNat_ofNat, Nat.mod_eq_of_lt (by omega), Nat.mod_eq_of_lt (by omega)]
    exact (Nat.two_pow_add_eq_or_of_lt hb a).symm
  show IntKind.u64.wrap ((BitVec.ofInt 64 ((2 ^ k * a : Nat) : Int) ||| BitVec.ofInt 64 (b : Int)).toNat : Int) = _
  rw [h1, h2, h3, wrap_u64m]
  omega
theorem and_low64 (a k : Nat) (ha : a < 2 ^ 64) (hk : k ≤ 63) : bits .and .u64 (a : Int) ((2 ^ k - 1 : Nat) : Int) = ((a % 2 ^ k : Nat) : Int) := by
  have hp : 2 ^ k ≤ 2 ^ 63 := Nat.pow_le_pow_right (by decide) hk
  have hp0 := Nat.two_pow_pos k
  have h1 : BitVec.ofInt 64 (a : Int) = BitVec.ofNat 64 a := BitVec.ofInt_natCast ..
  have h2 : BitVec.ofInt 64 ((2 ^ k - 1 : Nat) : Int) = BitVec.ofNat 64 (2 ^ k - 1) := BitVec.ofInt_natCast ..
  have h3 : (BitVec.ofNat 64 a &&& BitVec.ofNat 64 (2 ^ k - 1)).toNat = a % 2 ^ k := by
    rw [BitVec.toNat_and, BitVec.toNat_ofNat, BitVec.toNat_ofNat, Nat.mod_eq_of_lt (by omega), Nat.mod_eq_of_lt (by omega), Nat.and_two_pow_sub_one_eq_mod]
  show IntKind.u64.wrap ((BitVec.ofInt 64 (a : Int) &&& BitVec.ofInt 64 ((2 ^ k - 1 : Nat) : Int)).toNat : Int) = _
  rw [h1, h2, h3, wrap_u64m]
  have := Nat.mod_lt a hp0
  omega
theorem near_cut {q L : Nat} {e : Int} {more : Bool} (h : 63 < max ((L : Int) - 53) (-1074 - e)) : near q L e more = 0 := by
  unfold near; simp only; rw [if_pos h]
theorem near_step {q L d m m2 : Nat} {e e2 : Int} {more : Bool} (hd : (d : Int) = max ((L : Int) - 53) (-1074 - e)) (h : ¬ 63 < (d : Int)) (hm : m = if 2 ^ (d - 1) < q % 2 ^ d ∨ (q % 2 ^ d = 2 ^ (d - 1) ∧ (more = true ∨ q / 2 ^ d % 2 = 1)) then q / 2 ^ d + 1 else q / 2 ^ d)
    (h2 : (m = 2 ^ 53 ∧ m2 = 2 ^ 52 ∧ e2 = e + d + 1) ∨ (m ≠ 2 ^ 53 ∧ m2 = m ∧ e2 = e + d)) : near q L e more = if 971 < e2 then infB else if m2 < 2 ^ 52 then m2 else (e2 + 1075).toNat * 2 ^ 52 + m2 % 2 ^ 52 := by
  unfold near
  simp only
  rw [← hd, if_neg h, Int.toNat_natCast, ← hm]
  rcases h2 with ⟨h1, rfl, rfl⟩ | ⟨h1, rfl, rfl⟩
  · rw [if_pos h1, if_pos h1]
  · rw [if_neg h1, if_neg h1]
set_option maxHeartbeats 4000000 in
theorem nearest_ok (q : Nat) (e : Int) (more : Bool) (w : World) (hq1 : 2 ^ 55 ≤ q) (hq2 : q < 2 ^ 58) (he1 : -100000 ≤ e) (he2 : e ≤ 100000) :
    Ret Tryz.prog 185 ⟨[.int .u64 q, .int .i64 e, .bool more]⟩ w fun r w' => r = .int .u64 (near q (bl q) e more : Nat) ∧ Ext w w' := by
  obtain ⟨g1, g2, g3⟩ := bl_pos (show 0 < q by omega)
  have hL1 : 56 ≤ bl q := by
    apply Nat.le_of_not_lt
    intro hc
    have := Nat.pow_le_pow_right (show 0 < 2 by decide) (show bl q ≤ 55 by omega)
    omega
  have hL2 : bl q ≤ 58 := by
    apply Nat.le_of_not_lt
    intro hc
    have := Nat.pow_le_pow_right (show 0 < 2 by decide) (show 58 ≤ bl q - 1 by omega)
    omega
  obtain ⟨d, hd⟩ : ∃ d : Nat, (d : Int) = max ((bl q : Int) - 53) (-1074 - e) := ⟨(max ((bl q : Int) - 53) (-1074 - e)).toNat, by omega⟩
  have hmax : (if ((bl q : Nat) : Int) - 53 < -1074 - e then -1074 - e else ((bl q : Nat) : Int) - 53) = (d : Int) := by split <;> omega
  have hd3 : 3 ≤ d := by omega
  have hdb : d ≤ 200000 := by omega
  have hmb := near_big (q := q) (L := bl q) (e := e) (more := more) (K := (e + d + 1074).toNat) (d := d) hq2 ⟨g1, g2⟩ hL1 hd (by omega)
  obtain ⟨-, hm53, hm52, -⟩ := hmb
  refine ret_of_G Tryz.func185 rfl Tryz.ntmps185 rfl ?_
  simp only [argEnv]
  refine rn ?_
  refine sCall c175 (len64_ok q _ (by omega)) ?_
  rintro _ W ⟨rfl, hW⟩
  subst hW
  refine sAd tb (r := ((bl q : Nat) : Int) - 52) (hp := wrap_i64 (n := ((bl q : Nat) : Int) - 52) (by omega) (by omega)) ?_
  refine sAd tb (r := ((bl q : Nat) : Int) - 53) (hp := (wrap_i64 (n := ((bl q : Nat) : Int) - 52 - 1) (by omega) (by omega)).trans (by omega)) ?_
  refine rn ?_
  refine sAd tb (r := -1074 - e) (hp := wrap_i64 (n := -1074 - e) (by omega) (by omega)) ?_
  refine GL.cons (Step.max2 rfl (Op1.of rfl (fun _ => rfl)) (Op1.of rfl (fun _ => rfl)) rfl ?_)
  rw [hmax]
  refine rn ?_
  first | refine G.condD rfl (fun hc => ?_) (fun hc => ?_) | refine G.condN rfl (fun hc => ?_) (fun hc => ?_) | refine G.cond rfl (fun hc => ?_) (fun hc => ?_)
  · rw [near_cut (by rw [← hd]; exact hc)]
    refine rn ?_
    refine G.ret1 rfl rfl rfl rfl ?_
    exact ⟨rfl, Ext.refl _⟩
  have hd63 : ¬ 63 < (d : Int) := hc
  clear hc
  have hp63 : 2 ^ d ≤ 2 ^ 63 := Nat.pow_le_pow_right (by decide) (by omega)
  have hpd := Nat.two_pow_pos d
  have hpe := Nat.two_pow_pos (d - 1)
  have hpde : 2 ^ d = 2 * 2 ^ (d - 1) := by rw [← Nat.pow_succ']; congr 1; omega
  have hpi : (1 : Int) * 2 ^ d = ((2 ^ d : Nat) : Int) := by rw [Int.one_mul, Int.natCast_pow]; rfl
  have hpj : (1 : Int) * 2 ^ (d - 1) = ((2 ^ (d - 1) : Nat) : Int) := by rw [Int.one_mul, Int.natCast_pow]; rfl
  have hns := fun m m2 e2 => near_step (q := q) (e := e) (more := more) (m := m) (m2 := m2) (e2 := e2) hd hd63
  have hshr := shr_nat q d
  have hand := and_low64 q d (by omega) (by omega)
  have hrl := Nat.mod_lt q hpd
  generalize q / 2 ^ d = m0 at *
  generalize q % 2 ^ d = rest at *
  refine rn ?_
  refine G.regionM [(0, true), (1, true), (2, true), (3, true), (4, true), (5, true), (6, true), (7, true), (8, true), (9, true), (10, true), (11, true), (12, true), (13, true)] (Ext W) (by kernel_rfl) (by kernel_rfl) rfl mixed (Ext.drew W) rfl ?_
  refine rd ?_
  refine GM.read (fun _ _ => Step.shr (n := d) rfl (Op1.of rfl (fun _ => rfl)) (Op1.of rfl (fun _ => rfl)) hshr (by show d ≤ 64; omega) rfl ⟨rfl, rfl⟩) rfl rfl ?_
  refine rd ?_
  refine GM.read (fun _ _ => Step.shl (n := d) (r := ((2 ^ d : Nat) : Int)) rfl (Op1.of rfl (fun _ => rfl)) (Op1.of rfl (fun _ => rfl)) (by rw [hpi]; exact wrap_u64 (by omega) (by omega)) (by show d ≤ 64; omega) rfl ⟨rfl, rfl⟩) rfl rfl ?_
  refine GM.read (fun _ _ => Step.arith (k := .u64) (a := ((2 ^ d : Nat) : Int)) (b := 1) (r := ((2 ^ d - 1 : Nat) : Int)) rfl (Op1.of rfl (fun _ => rfl)) (Op1.of rfl (fun _ => rfl)) ((wrap_u64 (n := ((2 ^ d : Nat) : Int) - 1) (by omega) (by omega)).trans (by omega)) rfl ⟨rfl, rfl⟩) rfl rfl ?_
  refine rd ?_
  refine dAd tb (r := ((d - 1 : Nat) : Int)) (hp := (wrap_i64 (n := ((d : Nat) : Int) - 1) (by omega) (by omega)).trans (by omega)) ?_
  refine GM.read (fun _ _ => Step.shl (n := d - 1) (r := ((2 ^ (d - 1) : Nat) : Int)) rfl (Op1.of rfl (fun _ => rfl)) (Op1.of rfl (fun _ => rfl)) (by rw [hpj]; exact wrap_u64 (by omega) (by omega)) (by show d - 1 ≤ 64; omega) rfl ⟨rfl, rfl⟩) rfl rfl ?_
  refine rd ?_
  refine GM.nil ?_
  rw [hand]
  have hx1 := Ext.drew W
  generalize W.drew = W1 at hx1 ⊢
  have hrem : ((m0 : Nat) : Int).tmod 2 = ((m0 % 2 : Nat) : Int) := (Int.tmod_eq_emod_of_nonneg (by omega)).trans (by omega)
  refine rn ?_
  refine sRem hrem ?_
  refine rn ?_
  have hce : (decide (((2 ^ (d - 1) : Nat) : Int) < ((rest : Nat) : Int)) || decide (((rest : Nat) : Int) = ((2 ^ (d - 1) : Nat) : Int)) && (more || decide (((m0 % 2 : Nat) : Int) = 1))) =
      decide (2 ^ (d - 1) < rest ∨ (rest = 2 ^ (d - 1) ∧ (more = true ∨ m0 % 2 = 1))) := by
    generalize 2 ^ (d - 1) = hf
    have e1 : decide (((hf : Nat) : Int) < ((rest : Nat) : Int)) = decide (hf < rest) := decide_eq_decide.2 (by omega)
    have e2 : decide (((rest : Nat) : Int) = ((hf : Nat) : Int)) = decide (rest = hf) := decide_eq_decide.2 (by omega)
    have e3 : decide (((m0 % 2 : Nat) : Int) = 1) = decide (m0 % 2 = 1) := decide_eq_decide.2 (by omega)
    rw [e1, e2, e3, Bool.eq_iff_iff]
    simp only [Bool.or_eq_true, Bool.and_eq_true, decide_eq_true_eq]
  obtain ⟨m, hm⟩ : ∃ m, m = if 2 ^ (d - 1) < rest ∨ (rest = 2 ^ (d - 1) ∧ (more = true ∨ m0 % 2 = 1)) then m0 + 1 else m0 := ⟨_, rfl⟩
  have hmb : m ≤ 2 ^ 53 ∧ (2 ^ 52 ≤ m ∨ (e + d + 1074).toNat = 0) := by rw [hm]; split <;> omega
  refine G.join (fun _ : Unit => [(1, none, .int .i64 e), (7, none, .int .i64 d), (8, none, .int .u64 m)]) (fun _ w' => w' = W1) ?_ ?_
  rotate_left
  · rw [hce]
    by_cases hup : 2 ^ (d - 1) < rest ∨ (rest = 2 ^ (d - 1) ∧ (more = true ∨ m0 % 2 = 1))
    · rw [decide_eq_true hup]
      rw [if_pos hup] at hm
      refine rn ?_
      refine GL.cons (Step.arith (k := .u64) (a := ((m0 : Nat) : Int)) (b := 1) (r := ((m : Nat) : Int)) rfl (Op1.of rfl (fun _ => rfl)) (Op1.of rfl (fun _ => rfl)) ((wrap_u64 (n := ((m0 : Nat) : Int) + 1) (by omega) (by omega)).trans (by omega)) rfl ?_)
      refine rn ?_
      exact G.met () (by repeat (first | exact Sub.nil _ | refine Sub.cons rfl ?_)) rfl
    · rw [decide_eq_false hup]
      rw [if_neg hup] at hm
      rw [hm]
      refine rn ?_
      exact G.met () (by repeat (first | exact Sub.nil _ | refine Sub.cons rfl ?_)) rfl
  rintro _ W2 hW2
  subst hW2
  obtain ⟨e2, m2, h2⟩ : ∃ (e2 : Int) (m2 : Nat), (m = 2 ^ 53 ∧ m2 = 2 ^ 52 ∧ e2 = e + d + 1) ∨ (m ≠ 2 ^ 53 ∧ m2 = m ∧ e2 = e + d) := by
    by_cases h : m = 2 ^ 53
    · exact ⟨_, _, .inl ⟨h, rfl, rfl⟩⟩
    · exact ⟨_, _, .inr ⟨h, rfl, rfl⟩⟩
  rw [hns m m2 e2 hm h2]
  have hm2 : m2 < 2 ^ 53 ∧ -1074 ≤ e2 ∧ e2 ≤ 300001 := by omega
  clear hce hns hm hmax hand hshr
  refine rn ?_
  refine sAd tb (r := e + d) (hp := wrap_i64 (n := e + d) (by omega) (by omega)) ?_
  refine rn ?_
  refine G.join (fun _ : Unit => [(1, none, .int .i64 e2), (8, none, .int .u64 m2)]) (fun _ w' => w' = W2) ?_ ?_
  rotate_left
  · first | refine G.condD rfl (fun hc => ?_) (fun hc => ?_) | refine G.condN rfl (fun hc => ?_) (fun hc => ?_) | refine G.cond rfl (fun hc => ?_) (fun hc => ?_)
    · have hme : m = 2 ^ 53 := by omega
      obtain ⟨-, rfl, rfl⟩ := h2.resolve_right (fun h => h.1 hme)
      refine rn ?_
      refine sAd tb (r := e + d + 1) (hp := wrap_i64 (n := e + d + 1) (by omega) (by omega)) ?_
      refine rn ?_
      exact G.met () (by repeat (first | exact Sub.nil _ | refine Sub.cons rfl ?_)) rfl
    · have hme : m ≠ 2 ^ 53 := by omega
      obtain ⟨-, rfl, rfl⟩ := h2.resolve_left (fun h => hme h.1)
      refine rn ?_
      exact G.met () (by repeat (first | exact Sub.nil _ | refine Sub.cons rfl ?_)) rfl
  rintro _ W3 hW3
  subst hW3
  clear h2 hpi hpj hpde hpe hpd hp63
  refine rn ?_
  first | refine G.condD rfl (fun hc => ?_) (fun hc => ?_) | refine G.condN rfl (fun hc => ?_) (fun hc => ?_) | refine G.cond rfl (fun hc => ?_) (fun hc => ?_)
  · rw [if_pos hc]
    refine rn ?_
    refine G.ret1 rfl rfl rfl rfl ?_
    exact ⟨rfl, hx1⟩
  rw [if_neg hc]
  first | refine gl tb ?_ | refine gg tb ?_ | refine ll tb ?_ | refine lg tb ?_
  first | refine G.condD rfl (fun hc => ?_) (fun hc => ?_) | refine G.condN rfl (fun hc => ?_) (fun hc => ?_) | refine G.cond rfl (fun hc => ?_) (fun hc => ?_)
  · rw [if_pos (by omega)]
    refine rn ?_
    refine G.ret1 rfl rfl rfl rfl ?_
    exact ⟨rfl, hx1⟩
  rw [if_neg (by omega)]
  have hand2 := and_low64 m2 52 (by omega) (by omega)
  obtain ⟨K, hK⟩ : ∃ K : Nat, (K : Int) = e2 + 1075 := ⟨(e2 + 1075).toNat, by omega⟩
  rw [show (e2 + 1075).toNat = K by omega]
  obtain ⟨Z, hZ⟩ : ∃ Z, Z = 2 ^ 52 * K := ⟨_, rfl⟩
  refine rn ?_
  refine sAd tb (r := e2 + 1074) (hp := (wrap_i64 (n := e2 - -1074) (by omega) (by omega)).trans (by omega)) ?_
  refine sAd tb (r := ((K : Nat) : Int)) (hp := (wrap_i64 (n := e2 + 1074 + 1) (by omega) (by omega)).trans (by omega)) ?_
  refine sCv tb (r := ((K : Nat) : Int)) ?_ (hr := wrap_u64 (by omega) (by omega))
  refine GL.cons (Step.shl (n := 52) (r := ((Z : Nat) : Int)) rfl (Op1.of rfl (fun _ => rfl)) (Op1.of rfl (fun _ => rfl)) ((wrap_u64 (n := ((K : Nat) : Int) * 2 ^ 52) (by omega) (by omega)).trans (by omega)) (by decide) rfl ?_)
  refine rn ?_
  rw [show (4503599627370495 : Int) = ((2 ^ 52 - 1 : Nat) : Int) by decide, hand2, hZ, or_low64 K (m2 % 2 ^ 52) 52 (Nat.mod_lt _ (by decide)) (by omega)]
  refine G.ret1 rfl rfl rfl rfl ?_
  exact ⟨by rw [Nat.mul_comm], hx1⟩
end Go.Proofs.YtcngoccnfmhhnaaGreatDoor
end
section
open Go Go.Vg Go.RowKit Go.Proofs Go.Proofs.YtcngoccnfmhhnaaGreatDoor
namespace Go.Proofs.YtcngoccnfmhhnaaGreatDoor
open Go.Nm

theorem bl_le {n k : Nat} (h : n < 2 ^ k) : bl n ≤ k := by
  by_cases h0 : n = 0
  · rw [h0]; exact Nat.zero_le _
  · have := (bl_pos (show 0 < n by omega)).1
    apply Nat.le_of_not_lt
    intro hc
    have := Nat.pow_le_pow_right (show 0 < 2 by decide) (show k ≤ bl n - 1 by omega)
    omega
theorem Nt.bl_len {w : World} {v : Value} {l : List Nat} (h : Nt w v l) : bl (vL (2 ^ 32) l) ≤ 32 * l.length := by
  apply bl_le
  have := vL_lt h.nr.lt
  rwa [← Nat.pow_mul] at this
set_option maxHeartbeats 4000000 in
theorem bits_ok (l : List UInt8) (x : Int) (w : World) (hd : allD l) (hll : l.length ≤ 1000) (hx1 : -200000 ≤ x) (hx2 : x ≤ 200000) :
    Ret Tryz.prog 163 ⟨[.agg ⟨[S (trimZ l), .int .i64 x]⟩]⟩ w fun r w' => r = .int .u64 (progBits (trimZ l) x : Nat) ∧ Ext w w' := by
  have hdl := trimZ_len l
  have hdd : allD (trimZ l) := fun c hc => hd c (trimZ_mem hc)
  have hpos := @trim_pos l hd
  obtain ⟨ds, hds⟩ : ∃ ds, ds = trimZ l := ⟨_, rfl⟩
  rw [← hds] at hdl hdd hpos ⊢
  clear hds
  have hnil : ds.length = 0 ↔ ds = [] := List.length_eq_zero_iff
  refine ret_of_G Tryz.func163 rfl Tryz.ntmps163 rfl ?_
  simp only [argEnv]
  refine rn ?_
  refine sBox (us := [S ds, .int .i64 x]) (fun W1 hb1 hs1 hx01 => ?_) (hv := rfl)
  refine rn ?_
  refine sAd tb (r := ((ds.length : Nat) : Int) + x) (hp := wrap_i64 (n := ((ds.length : Nat) : Int) + x) (by omega) (by omega)) ?_
  refine rn ?_
  by_cases hc1 : ds = [] ∨ ((ds.length : Nat) : Int) + x < -330
  · have hP : progBits ds x = 0 := by unfold progBits; rw [if_pos hc1]
    rw [hP]
    rw [show (decide (ds = []) || decide (((ds.length : Nat) : Int) + x < -330)) = true by rcases hc1 with h | h <;> simp [h]]
    refine rn ?_
    refine G.ret1 rfl rfl rfl rfl ?_
    exact ⟨rfl, hx01⟩
  rw [show (decide (ds = []) || decide (((ds.length : Nat) : Int) + x < -330)) = false by simp only [not_or] at hc1; simp [hc1]]
  refine rn ?_
  by_cases hc2 : 310 < ((ds.length : Nat) : Int) + x
  · have hP : progBits ds x = infB := by unfold progBits; rw [if_neg hc1, if_pos hc2]
    rw [hP]
    rw [decide_eq_true hc2]
    refine rn ?_
    refine G.ret1 rfl rfl rfl rfl ?_
    exact ⟨rfl, hx01⟩
  rw [decide_eq_false hc2]
  have hne : ds ≠ [] := fun h => hc1 (.inl h)
  have hlow : ¬ ((ds.length : Nat) : Int) + x < -330 := fun h => hc1 (.inr h)
  have hP : progBits ds x = near (quoN (numL ds 0 * 10 ^ x.toNat) (10 ^ (-x).toNat)) (bl (quoN (numL ds 0 * 10 ^ x.toNat) (10 ^ (-x).toNat))) (-(shiftN (numL ds 0 * 10 ^ x.toNat) (10 ^ (-x).toNat))) (decide (0 < remN (numL ds 0 * 10 ^ x.toNat) (10 ^ (-x).toNat))) := by
    unfold progBits; rw [if_neg hc1, if_neg hc2]
  rw [hP]
  have hD0 : 0 < numL ds 0 := Nat.lt_of_lt_of_le (Nat.pow_pos (by decide)) (hpos hne)
  have hlen1 : 1 ≤ ds.length := List.length_pos_iff.2 hne
  clear hpos hc1 hP
  refine rn ?_
  refine (G.loop (fun y : Nat × List Nat × Value => [(1, none, ptr w.heap.size), (4, none, y.2.2), (30, none, .int .i64 ds.length), (31, none, .int .i64 y.1)]) (fun y W => Ext w W ∧ Bx W w.heap.size [S ds, .int .i64 x] ∧ Nt W y.2.2 y.2.1 ∧ vL (2 ^ 32) y.2.1 = numL (ds.take y.1) 0 ∧ y.2.1.length ≤ y.1 ∧ y.1 ≤ ds.length) (fun y => ds.length - y.1) (0, [], .slice none 0 0) (by repeat (first | exact Sub.nil _ | refine Sub.cons rfl ?_)) ⟨hx01, hb1, ⟨Sli.nil _ _, Nrm.nil _⟩, rfl, Nat.le_refl _, Nat.zero_le _⟩ ?_)
  clear hb1 hs1 hx01
  rintro ⟨i, q, v⟩ W ⟨hx, hb, hv, hq, hql, hi⟩
  simp only at hv hq hql hi
  show G _ _ [(1, none, ptr w.heap.size), (4, none, v), (30, none, .int .i64 ds.length), (31, none, .int .i64 i)] W
  refine rn ?_
  first | refine G.condD rfl (fun hc => ?_) (fun hc => ?_) | refine G.condN rfl (fun hc => ?_) (fun hc => ?_) | refine G.cond rfl (fun hc => ?_) (fun hc => ?_)
  · have hlt : i < ds.length := by omega
    have hcd := hdd (ds.getD i 0) (by rw [List.getD_eq_getElem?_getD, List.getElem?_eq_getElem hlt]; exact List.getElem_mem hlt)
    have htk := take_snoc hlt
    refine rn ?_
    refine sBs tb i ?_
    obtain ⟨dg, hdg⟩ : ∃ dg, dg = (ds.getD i 0).toNat - 48 := ⟨_, rfl⟩
    refine GL.cons (Step.arith (k := .u8) (a := (ds.getD i 0).toNat) (b := 48) (r := ((dg : Nat) : Int)) rfl (Op1.of rfl (by first | exact fun _ => rfl | exact fun h => h | exact fun h => bL h | exact fun h => bL (bL h) | exact fun h => bL (bL (bL h)))) (Op1.of rfl (by first | exact fun _ => rfl | exact fun h => h | exact fun h => bL h | exact fun h => bL (bL h) | exact fun h => bL (bL (bL h)))) ((Go.Vg.wrap_u8 _).trans (by omega)) rfl ?_)
    refine sCv tb (r := ((dg : Nat) : Int)) ?_ (hr := by rw [wrap_u32m]; omega)
    refine rn ?_
    refine sCall c178 (times_ok v q 10 dg W hv (by omega) (by decide) (by omega)) ?_
    rintro v2 W2 ⟨hv2, hx2'⟩
    have htl := timesL_len 10 dg q
    have htv := timesL_val 10 dg q
    refine rn ?_
    refine sAd tb (r := ((i + 1 : Nat) : Int)) ?_
    refine rn ?_
    exact G.lp (x := (i, q, v)) (i + 1, timesL 10 dg q, v2) (by repeat (first | exact Sub.nil _ | refine Sub.cons rfl ?_)) ⟨hx.trans hx2', hb.to hx2', hv2, by simp only; rw [htv, hq, htk, numL_snoc, ← hdg, Nat.mul_comm], by simp only; omega, by simp only; omega⟩ (by simp only; omega)
  have hie : i = ds.length := by omega
  subst hie
  rw [List.take_length] at hq
  clear hi hc
  refine rn ?_
  refine sCall c179 (of_ok 1 W (by decide)) ?_
  rintro sv W2 ⟨sl, hs, hs1, hsl, hx02⟩
  have hb2 := hb.to hx02
  have hv2 := hv.to hx02
  have hx := hx.trans hx02
  clear hb hv hx02
  refine rn ?_
  refine G.join (fun y : (List Nat × Value) × (List Nat × Value) => [(4, none, y.1.2), (6, none, y.2.2)]) (fun y W' => Ext w W' ∧ Nt W' y.1.2 y.1.1 ∧ Nt W' y.2.2 y.2.1 ∧ vL (2 ^ 32) y.1.1 = numL ds 0 * 10 ^ x.toNat ∧ vL (2 ^ 32) y.2.1 = 10 ^ (-x).toNat ∧ y.1.1.length ≤ 2000 ∧ y.2.1.length ≤ 2000) ?_ ?_
  rotate_left
  · first | refine G.condD rfl (fun hc => ?_) (fun hc => ?_) | refine G.condN rfl (fun hc => ?_) (fun hc => ?_) | refine G.cond rfl (fun hc => ?_) (fun hc => ?_)
    · obtain ⟨n, rfl⟩ : ∃ n : Nat, x = n := ⟨x.toNat, by omega⟩
      have htl := tensL_len n q
      refine rn ?_
      refine sCall c180 (tens_ok v q n W2 hv2 (by omega) (by omega)) ?_
      rintro v3 W3 ⟨hv3, hx3⟩
      refine rn ?_
      exact G.met ((tensL n q, v3), (sl, sv)) (by repeat (first | exact Sub.nil _ | refine Sub.cons rfl ?_)) ⟨hx.trans hx3, hv3, hs.to hx3, by simp only; rw [tensL_val, hq, Int.toNat_natCast], by simp only; rw [hs1, show (-(n : Int)).toNat = 0 by omega], by simp only; omega, by simp only; omega⟩
    · obtain ⟨n, hn⟩ : ∃ n : Nat, -x = n := ⟨(-x).toNat, by omega⟩
      have htl := tensL_len n sl
      refine rn ?_
      refine GL.cons (Step.neg (r := ((n : Nat) : Int)) rfl (Op1.of rfl (by first | exact fun _ => rfl | exact fun h => h | exact fun h => bL h | exact fun h => bL (bL h) | exact fun h => bL (bL (bL h)))) ((wrap_i64 (n := 0 - x) (by omega) (by omega)).trans (by omega)) rfl ?_)
      refine rn ?_
      refine sCall c180 (tens_ok sv sl n W2 hs (by omega) (by omega)) ?_
      rintro v3 W3 ⟨hv3, hx3⟩
      refine rn ?_
      exact G.met ((q, v), (tensL n sl, v3)) (by repeat (first | exact Sub.nil _ | refine Sub.cons rfl ?_)) ⟨hx.trans hx3, hv2.to hx3, hv3, by simp only; rw [hq, show x.toNat = 0 by omega, Nat.pow_zero, Nat.mul_one], by simp only; rw [tensL_val, hs1, Nat.one_mul, hn, Int.toNat_natCast], by simp only; omega, by simp only; omega⟩
  clear hv2 hs hq hs1 hb2 hql hsl hx
  rintro ⟨⟨rl, rv⟩, ⟨sl2, sv2⟩⟩ W3 ⟨hx, hr, hs, hrv, hsv, hrl, hsl⟩
  simp only at hr hs hrv hsv hrl hsl
  show G _ _ [(4, none, rv), (6, none, sv2)] W3
  have hR0 : 0 < vL (2 ^ 32) rl := by rw [hrv]; exact Nat.mul_pos hD0 (Nat.pow_pos (by decide))
  have hS0 : 0 < vL (2 ^ 32) sl2 := by rw [hsv]; exact Nat.pow_pos (by decide)
  rw [← hrv, ← hsv]
  have hbr := hr.bl_len
  have hbs := hs.bl_len
  have hsh : shiftN (vL (2 ^ 32) rl) (vL (2 ^ 32) sl2) = 56 - ((bl (vL (2 ^ 32) rl) : Int) - (bl (vL (2 ^ 32) sl2) : Int)) := rfl
  obtain ⟨hq1, hq2⟩ := quoN_bd hR0 hS0
  obtain ⟨Y, hY⟩ : ∃ Y, Y = vL (2 ^ 32) rl * 2 ^ (shiftN (vL (2 ^ 32) rl) (vL (2 ^ 32) sl2)).toNat := ⟨_, rfl⟩
  obtain ⟨B, hB⟩ : ∃ B, B = vL (2 ^ 32) sl2 * 2 ^ (-(shiftN (vL (2 ^ 32) rl) (vL (2 ^ 32) sl2))).toNat := ⟨_, rfl⟩
  have hB0 : 0 < B := by rw [hB]; exact Nat.mul_pos hS0 (Nat.two_pow_pos _)
  have hqe : quoN (vL (2 ^ 32) rl) (vL (2 ^ 32) sl2) = Y / B := by rw [hY, hB]; rfl
  have hre : remN (vL (2 ^ 32) rl) (vL (2 ^ 32) sl2) = Y % B := by rw [hY, hB]; rfl
  rw [hqe, hre]
  rw [hqe] at hq1 hq2
  have hYB : Y < B * 2 ^ 58 := by
    have := Nat.div_add_mod Y B
    have h2 := Nat.mod_lt Y hB0
    have h3 : B * (Y / B + 1) ≤ B * 2 ^ 58 := Nat.mul_le_mul_left _ (by omega)
    rw [Nat.mul_add, Nat.mul_one] at h3
    omega
  refine rn ?_
  refine sCall c181 (size_ok rv rl W3 hr (by omega)) ?_
  rintro _ W4 ⟨rfl, hW4⟩
  subst hW4
  refine rn ?_
  refine sCall c181 (size_ok sv2 sl2 _ hs (by omega)) ?_
  rintro _ W5 ⟨rfl, hW5⟩
  subst hW5
  generalize hsE : shiftN (vL (2 ^ 32) rl) (vL (2 ^ 32) sl2) = sh at *
  refine sAd tb (r := ((bl (vL (2 ^ 32) rl) : Nat) : Int) - ((bl (vL (2 ^ 32) sl2) : Nat) : Int)) (hp := wrap_i64 (n := ((bl (vL (2 ^ 32) rl) : Nat) : Int) - ((bl (vL (2 ^ 32) sl2) : Nat) : Int)) (by omega) (by omega)) ?_
  refine sAd tb (r := sh) (hp := (wrap_i64 (n := 56 - (((bl (vL (2 ^ 32) rl) : Nat) : Int) - ((bl (vL (2 ^ 32) sl2) : Nat) : Int))) (by omega) (by omega)).trans (by omega)) ?_
  refine rn ?_
  refine G.join (fun y : (List Nat × Value) × (List Nat × Value) => [(4, none, y.1.2), (6, none, y.2.2), (7, none, .int .i64 sh)]) (fun y W' => Ext w W' ∧ Nt W' y.1.2 y.1.1 ∧ Nt W' y.2.2 y.2.1 ∧ vL (2 ^ 32) y.1.1 = Y ∧ vL (2 ^ 32) y.2.1 = B ∧ y.1.1.length ≤ 10000 ∧ y.2.1.length ≤ 10000) ?_ ?_
  rotate_left
  · first | refine G.condD rfl (fun hc => ?_) (fun hc => ?_) | refine G.condN rfl (fun hc => ?_) (fun hc => ?_) | refine G.cond rfl (fun hc => ?_) (fun hc => ?_)
    · obtain ⟨n, hn⟩ : ∃ n : Nat, sh = n := ⟨sh.toNat, by omega⟩
      have hul := upL_len n rl
      rw [hn]
      rw [hn, Int.toNat_natCast] at hY
      rw [hn, show (-((n : Nat) : Int)).toNat = 0 by omega, Nat.pow_zero, Nat.mul_one] at hB
      refine rn ?_
      refine sCall c182 (up_ok rv rl n _ hr (by omega) (by omega)) ?_
      rintro v3 W4 ⟨hv3, hx3⟩
      refine rn ?_
      exact G.met ((upL n rl, v3), (sl2, sv2)) (by repeat (first | exact Sub.nil _ | refine Sub.cons rfl ?_)) ⟨hx.trans hx3, hv3, hs.to hx3, by simp only; rw [upL_val, hY], by simp only; rw [hB], by simp only; omega, by simp only; omega⟩
    · obtain ⟨n, hn⟩ : ∃ n : Nat, -sh = n := ⟨(-sh).toNat, by omega⟩
      have hul := upL_len n sl2
      rw [hn, Int.toNat_natCast] at hB
      rw [show sh.toNat = 0 by omega, Nat.pow_zero, Nat.mul_one] at hY
      refine rn ?_
      refine GL.cons (Step.neg (r := ((n : Nat) : Int)) rfl (Op1.of rfl (by first | exact fun _ => rfl | exact fun h => h | exact fun h => bL h | exact fun h => bL (bL h) | exact fun h => bL (bL (bL h)))) ((wrap_i64 (n := 0 - sh) (by omega) (by omega)).trans (by omega)) rfl ?_)
      refine rn ?_
      refine sCall c182 (up_ok sv2 sl2 n _ hs (by omega) (by omega)) ?_
      rintro v3 W4 ⟨hv3, hx3⟩
      refine rn ?_
      exact G.met ((rl, rv), (upL n sl2, v3)) (by repeat (first | exact Sub.nil _ | refine Sub.cons rfl ?_)) ⟨hx.trans hx3, hr.to hx3, hv3, by simp only; rw [hY], by simp only; rw [upL_val, hB], by simp only; omega, by simp only; omega⟩
  have hshb : -100000 ≤ sh ∧ sh ≤ 100000 := by omega
  clear hr hs hrv hsv hrl hsl hR0 hS0 hbr hbs hsh hY hB hqe hre hsE hx
  rintro ⟨⟨rl0, rv0⟩, ⟨sl3, sv3⟩⟩ W4 ⟨hx, hr, hs, hrv, hsv, hrl, hsl⟩
  simp only at hr hs hrv hsv hrl hsl
  show G _ _ [(4, none, rv0), (6, none, sv3), (7, none, .int .i64 sh)] W4
  refine rn ?_
  refine (G.loop (fun y : (Nat × Nat) × List Nat × Value => [(4, none, y.2.2), (6, none, sv3), (7, none, .int .i64 sh), (8, none, .int .u64 (y.1.2 : Nat)), (9, none, .int .i64 ((y.1.1 : Nat) - 1 : Int))]) (fun y W => Ext w W ∧ Nt W y.2.2 y.2.1 ∧ Nt W sv3 sl3 ∧ DivK Y B y.1.1 y.1.2 (vL (2 ^ 32) y.2.1) ∧ y.2.1.length ≤ 10000 ∧ y.1.1 ≤ 58) (fun y => y.1.1) ((58, 0), rl0, rv0) (by repeat (first | exact Sub.nil _ | refine Sub.cons rfl ?_)) ⟨hx, hr, hs, by simp only; rw [hrv]; exact DivK.start hYB, hrl, Nat.le_refl _⟩ ?_)
  clear hx hr hs hrv hrl
  rintro ⟨⟨K, q2⟩, rl, rv⟩ W ⟨hx, hr, hs, hD, hrl, hK⟩
  simp only at hr hs hD hrl hK
  show G _ _ [(4, none, rv), (6, none, sv3), (7, none, .int .i64 sh), (8, none, .int .u64 (q2 : Nat)), (9, none, .int .i64 ((K : Nat) - 1 : Int))] W
  have hq58 : q2 < 2 ^ 58 := by
    have h1 := hD.eq
    apply Nat.lt_of_not_le
    intro hc
    have := Nat.mul_le_mul_right B hc
    rw [Nat.mul_comm (2 ^ 58)] at this
    omega
  refine rn ?_
  first | refine G.condD rfl (fun hc => ?_) (fun hc => ?_) | refine G.condN rfl (fun hc => ?_) (fun hc => ?_) | refine G.cond rfl (fun hc => ?_) (fun hc => ?_)
  · obtain ⟨k, rfl⟩ : ∃ k, K = k + 1 := ⟨K - 1, by omega⟩
    rw [show ((k + 1 : Nat) : Int) - 1 = ((k : Nat) : Int) by omega]
    have hul := upL_len k sl3
    have huv := upL_val k sl3
    have hun := upL_nrm (n := k) hs.nr
    rw [hsv] at huv
    refine rn ?_
    refine sCall c182 (up_ok sv3 sl3 k W hs (by omega) (by omega)) ?_
    rintro tv W5 ⟨htv, hx5⟩
    have hr5 := hr.to hx5
    have hs5 := hs.to hx5
    refine rn ?_
    refine sCall c183 (against_ok rv tv rl (upL k sl3) W5 hr5 htv (by omega)) ?_
    rintro _ W6 ⟨rfl, hx6⟩
    have hr6 := hr5.to hx6
    have hs6 := hs5.to hx6
    have ht6 := htv.to hx6
    have hx06 := hx.trans (hx5.trans hx6)
    rw [huv]
    refine rn ?_
    by_cases hge : B * 2 ^ k ≤ vL (2 ^ 32) rl
    · have hcm : ¬ cmpV (vL (2 ^ 32) rl) (B * 2 ^ k) < 0 := fun h => by have := cmpV_lt.1 h; omega
      rw [decide_eq_true (show (0 : Int) ≤ cmpV (vL (2 ^ 32) rl) (B * 2 ^ k) by omega)]
      have hlen := len_of_le hr.nr hun (by rw [huv]; exact hge)
      have hlv := lessL_val hr.nr hun (by rw [huv]; exact hge)
      rw [huv] at hlv
      have hll2 : (lessL rl (upL k sl3)).length ≤ rl.length := by
        unfold lessL
        have := trimN_len (subR (2 ^ 32) rl (upL k sl3) 0).1
        rwa [subR_len] at this
      refine rn ?_
      refine sCall c184 (less_ok rv tv rl (upL k sl3) W6 hr6 ht6 (by omega) hlen) ?_
      rintro rv2 W7 ⟨hr7, hx7⟩
      have hq2 := Nat.div_add_mod q2 (2 ^ (k + 1))
      rw [hD.dvd, Nat.add_zero] at hq2
      have hpk : 2 ^ k < 2 ^ (k + 1) := Nat.pow_lt_pow_right (by decide) (by omega)
      have hpk58 : 2 ^ k ≤ 2 ^ 57 := Nat.pow_le_pow_right (by decide) (by omega)
      have hpi : (1 : Int) * 2 ^ k = ((2 ^ k : Nat) : Int) := by rw [Int.one_mul, Int.natCast_pow]; rfl
      have hor := or_low64 (q2 / 2 ^ (k + 1)) (2 ^ k) (k + 1) hpk (by rw [hq2]; omega)
      rw [hq2] at hor
      obtain ⟨P, hPe⟩ : ∃ P, P = 2 ^ k := ⟨_, rfl⟩
      rw [← hPe] at hpi hor
      refine rn ?_
      refine GL.cons (Step.shl (n := k) (r := ((P : Nat) : Int)) rfl (Op1.of rfl (fun _ => rfl)) (Op1.of rfl (fun _ => rfl)) (by rw [hpi]; exact wrap_u64 (by omega) (by omega)) (by show k ≤ 64; omega) rfl ?_)
      refine rn ?_
      rw [hor]
      refine sAd tb (r := ((k : Nat) : Int) - 1) (hp := wrap_i64 (n := ((k : Nat) : Int) - 1) (by omega) (by omega)) ?_
      refine rn ?_
      exact G.lp (x := ((k + 1, q2), rl, rv)) ((k, q2 + P), lessL rl (upL k sl3), rv2) (by repeat (first | exact Sub.nil _ | refine Sub.cons rfl ?_)) ⟨hx06.trans hx7, hr7, hs6.to hx7, by simp only; rw [hlv, hPe]; exact hD.one hge, by simp only; omega, by simp only; omega⟩ (by simp only; omega)
    · have hcm := cmpV_lt.2 (show vL (2 ^ 32) rl < B * 2 ^ k by omega)
      rw [decide_eq_false (show ¬ (0 : Int) ≤ cmpV (vL (2 ^ 32) rl) (B * 2 ^ k) by omega)]
      refine rn ?_
      refine sAd tb (r := ((k : Nat) : Int) - 1) (hp := wrap_i64 (n := ((k : Nat) : Int) - 1) (by omega) (by omega)) ?_
      refine rn ?_
      exact G.lp (x := ((k + 1, q2), rl, rv)) ((k, q2), rl, rv) (by repeat (first | exact Sub.nil _ | refine Sub.cons rfl ?_)) ⟨hx06, hr6, hs6, hD.zero (by omega), hrl, by simp only; omega⟩ (by simp only; omega)
  · have hK0 : K = 0 := by omega
    subst hK0
    obtain ⟨e1, e2⟩ := hD.fin
    have hmore : decide ((0 : Int) < ((rl.length : Nat) : Int)) = decide (0 < Y % B) := by
      rw [← e2]
      apply decide_eq_decide.2
      have h0 := hr.nr.zero (by decide)
      constructor
      · intro h
        apply Nat.pos_of_ne_zero
        intro hz
        rw [h0.1 hz] at h
        simp at h
      · intro h
        have : rl ≠ [] := fun e => by rw [h0.2 e] at h; omega
        have := List.length_pos_iff.2 this
        omega
    have hrs := hr.sl
    have hrml : (rl.map u32C).length = rl.length := List.length_map ..
    rw [← e1] at hq1 hq2 ⊢
    refine rn ?_
    refine GL.cons (Step.neg (r := -sh) rfl (Op1.of rfl (by first | exact fun _ => rfl | exact fun h => h | exact fun h => bL h | exact fun h => bL (bL h) | exact fun h => bL (bL (bL h)))) ((wrap_i64 (n := 0 - sh) (by omega) (by omega)).trans (by omega)) rfl ?_)
    refine rn ?_
    rw [hrml, hmore]
    refine sCall c185 (nearest_ok q2 (-sh) (decide (0 < Y % B)) W hq1 (by omega) (by omega) (by omega)) ?_
    rintro _ W5 ⟨rfl, hx5⟩
    refine rn ?_
    refine G.ret1 rfl rfl rfl rfl ?_
    exact ⟨rfl, hx.trans hx5⟩
end Go.Proofs.YtcngoccnfmhhnaaGreatDoor
end
