/- Part of the proof of a statement about the given program. -/
import Derived.Test.YtmkckngecjpklaaGreatDoorP02
import Derived.OwnWalk
import Derived.Recover
import Derived.Lib.OthersKept
import Derived.Laws.RangeString
import Derived.Laws.Runes
section
namespace Go.Vg
open Go.RowKit

/-- it returns, and S holds; or it panics, and Z holds -/
def RetP (P : Program) (f : FuncId) (args : Array Value) (w : World) (S : Value → World → Prop) (Z : List PanicEntry → World → Prop) : Prop :=
  Calls P f args w fun en w' => (∃ v, en = .returned v ∧ S v w') ∨ (∃ ch, en = .panicked ch ∧ Z ch w')
theorem RetP.mono {P : Program} {f : FuncId} {args : Array Value} {w : World} {S S' : Value → World → Prop} {Z Z' : List PanicEntry → World → Prop} (h : RetP P f args w S Z) (hs : ∀ v w', S v w' → S' v w') (hz : ∀ c w', Z c w' → Z' c w') : RetP P f args w S' Z' :=
  Calls.mono h fun _ _ h => h.elim (fun ⟨v, he, hv⟩ => .inl ⟨v, he, hs _ _ hv⟩) (fun ⟨c, he, hv⟩ => .inr ⟨c, he, hz _ _ hv⟩)

def retFinP (P : Program) (fn : Func) (S : Value → World → Prop) (Z : List PanicEntry → World → Prop) : Exit → Act → World → Prop :=
  bodyPost P fn fun en w' => (∃ v, en = .returned v ∧ S v w') ∨ (∃ ch, en = .panicked ch ∧ Z ch w')

theorem fits_start {vs : List Value} {n m : Nat} (hn : m = n) (hsz : vs.length ≤ n) : Fits n (argEnv 0 vs) ((⟨vs⟩ : Array Value) ++ Array.replicate (m - (⟨vs⟩ : Array Value).size) undef) := by
  refine fits_args vs [] 0 rfl (by omega) _ (by simp [hn]; omega) (fun i hi => ?_)
  have hi' : i < vs.length := by omega
  simp [Array.getD_eq_getD_getElem?, List.getD, Array.getElem?_append, hi']
theorem ret_of_GP {P : Program} {f : FuncId} {fn : Func} {c : Code} {vs : List Value} {w : World} {S : Value → World → Prop} {Z : List PanicEntry → World → Prop} {n : Nat}
    (hf : P.funcs[f]? = some fn) (hb : fn.body = some c) (hn : fn.ntmps = n) (hl : Nat.ble vs.length n = true)
    (h : G ⟨none, P, retFinP P fn S Z, n, []⟩ [.code c] (argEnv 0 vs) w) : RetP P f ⟨vs⟩ w S Z := by
  refine calls_of_wp hf hb ?_
  have h1 := h _ (fits_start hn (by simpa using hl))
  refine wpIn_wide (n := 0) |>.1 ?_
  refine wpIn_mono h1 ?_
  intro ex a w' hq
  cases ex <;> exact hq
theorem px_P {X : Cx} {P : Program} {fn : Func} {S : Value → World → Prop} {Z : List PanicEntry → World → Prop} {ch : List PanicEntry} {w : World} (hX : X.fin = retFinP P fn S Z) (hd : X.ds = []) (h : Z ch w) : X.px ch w := by
  intro t
  rw [hX, hd]
  exact ⟨rfl, .inr ⟨ch, rfl, h⟩⟩

theorem res2 {P : Program} {fn : Func} {n : Nat} {e : Env} {t : Array Value} (hf : Fits n e t) {s s' : Nat} {v v' : Value} (hr : fn.results = #[.tmp s, .tmp s']) (hv : look e s = some (none, v)) (hv' : look e s' = some (none, v')) (w : World) :
    (results fn t).run P w = .ok (.tuple ⟨[v, v']⟩) w := by
  rw [results_tmp2 hr, (hf.get _ _ _ hv).2, (hf.get _ _ _ hv').2]; rfl
theorem G.retP {X : Cx} {k : List Kt} {e : Env} {w : World} {P : Program} {fn : Func} {S : Value → World → Prop} {Z : List PanicEntry → World → Prop} (hX : X.fin = retFinP P fn S Z) (hd : X.ds = [])
    (v : Value) (hr : ∀ t, Fits X.n e t → (results fn t).run P w = .ok v w) (h : S v w) : G X (.code .ret :: k) e w := by
  refine G.ret fun t ht => ?_
  rw [hX, hd]
  exact ⟨rfl, v, hr t ht, .inl ⟨v, rfl, h⟩⟩
theorem G.retP1 {X : Cx} {k : List Kt} {e : Env} {w : World} {P : Program} {fn : Func} {S : Value → World → Prop} {Z : List PanicEntry → World → Prop} (hX : X.fin = retFinP P fn S Z) (hd : X.ds = []) {s : Nat} {v : Value}
    (hr : fn.results = #[.tmp s]) (hv : look e s = some (none, v)) (h : S v w) : G X (.code .ret :: k) e w := G.retP hX hd v (fun _ ht => res1 ht hr hv w) h
theorem G.retP2 {X : Cx} {k : List Kt} {e : Env} {w : World} {P : Program} {fn : Func} {S : Value → World → Prop} {Z : List PanicEntry → World → Prop} (hX : X.fin = retFinP P fn S Z) (hd : X.ds = []) {s s' : Nat} {v v' : Value}
    (hr : fn.results = #[.tmp s, .tmp s']) (hv : look e s = some (none, v)) (hv' : look e s' = some (none, v')) (h : S (.tuple ⟨[v, v']⟩) w) : G X (.code .ret :: k) e w := G.retP hX hd _ (fun _ ht => res2 ht hr hv hv' w) h
section steps
variable {X : Cx} {ops : Array Oper} {e : Env} {w : World} {N : Env → World → Prop} {d : Nat} {c : Option Bool} {ty : TypeId} {pos : String} {af : Array Edge} {g : Option (Nat × Bool)} {l : List Oper} {k : List Kt} {lb : List (Oper × Bool)} {W : World → Prop}

theorem GL.consP {o : Oper} (h : StepP X ops o e w (fun e' w' => GL X ops l k e' w')) : GL X ops (o :: l) k e w := by
  intro t hf
  exact h t _ _ hf (fun e' w' t' hN hf' => hN t' hf') (fun ch t' w' hp => post_panic (hp t'))

theorem StepP.callF {f : FuncId} {args : Array Operand} {ats : Array TypeId} {lo : List Operand} {vs : List Value} {S : Value → World → Prop} {Z : List PanicEntry → World → Prop}
    (hg : guardE ops e ⟨some d, .call { callee := .value (.func f), args := args, argTypes := ats }, ty, pos, af, g⟩ = some none)
    (ha : args = ⟨lo⟩) (hvs : evs e lo = some vs) (hf : Callable X.P f)
    (hn : Nat.blt d X.n = true) (hc : RetP X.P f ⟨vs⟩ w S Z) (hz : ∀ ch w', Z ch w' → X.px ch w')
    (h : ∀ v w', S v w' → N ((d, none, v) :: e) w') : StepP X ops ⟨some d, .call { callee := .value (.func f), args := args, argTypes := ats }, ty, pos, af, g⟩ e w N := by
  intro t K Q hft hK hP
  rw [guardE_wanted hft hg, if_pos (by rfl)]
  refine ⟨fun _ _ => trivial, ?_⟩
  rw [Oper.semAt_eq _ _ _ (fun _ hh => by cases hh)]
  have := evs_map (ds := X.ds) hft hvs
  subst ha
  have h2 : (Array.mk lo).map (Act.mk t X.ds).eval = ⟨vs⟩ := by simp [this]
  have hrun : (execOp (Act.mk t X.ds).eval ⟨some d, .call { callee := .value (.func f), args := ⟨lo⟩, argTypes := ats }, ty, pos, af, g⟩).run X.P w = .ok (.enter f ⟨vs⟩) w := by
    simp only [execOp, resolve, h2, Act.eval, Deferred.ofValue, Sem.run_bind, Sem.run_pure, Result.andThen_ok, invoke, Array.empty_append, Array.append_empty, run_callFunc hf]
  show Oper.uponIn _ _ _ _ _ _ _ ((execOp (Act.mk t X.ds).eval _).run X.P w)
  rw [hrun]
  refine ⟨fun h => by simp [Fence.wide] at h, callsW (Calls.mono hc ?_)⟩
  rintro en w' (⟨v, rfl, hS⟩ | ⟨ch, rfl, hZ⟩)
  · show K (Act.put _ (some d) v) w'
    exact hK _ _ _ (h v w' hS) (hft.put (by simpa [Nat.blt_eq] using hn) none v)
  · exact hP ch t w' (hz ch w' hZ)
def ifaceT : TypeDesc → Bool
  | .interface _ => true
  | _ => false
theorem Step.mkIface (T : Tb X.P) {x : Operand} {t : TypeId} {td : TypeDesc} {v : Value} (hg : guardE ops e ⟨some d, .makeInterface t x, ty, pos, af, g⟩ = some c) (hx : Op1 e c x v) (ht : T.ty t = some td) (hi : ifaceT td = false)
    (hn : Nat.blt d X.n = true) (h : N ((d, c, .iface t v) :: e) w) : Step X ops ⟨some d, .makeInterface t x, ty, pos, af, g⟩ e w N :=
  Step.quiet rfl (by simpa [Nat.blt_eq] using hn) hg (fun _ hh => by cases hh) (fun t' hf hc => by
    have hT := T.ok _ _ ht
    simp only [execOp, hx.val hf hc, Instr.makeInterface, Sem.run_bind, run_underlying hT, Result.andThen_ok]
    cases td <;> first | (cases hi; done) | rfl) h
theorem StepP.panic {x : Operand} {t : TypeId} {v : Value} (hg : guardE ops e ⟨none, .panic x, ty, pos, af, g⟩ = some none) (hx : Op1 e none x (.iface t v))
    (hz : X.px [{ v := .iface t v, recovered := false }] w) : StepP X ops ⟨none, .panic x, ty, pos, af, g⟩ e w N := by
  intro t' K Q hft hK hP
  rw [guardE_wanted hft hg, if_pos (by rfl)]
  refine ⟨fun _ _ => trivial, ?_⟩
  rw [Oper.semAt_eq _ _ _ (fun _ hh => by cases hh)]
  have hrun : (execOp (Act.mk t' X.ds).eval ⟨none, .panic x, ty, pos, af, g⟩).run X.P w = .halt (.panic (.iface t v)) w := by
    simp only [execOp, hx.val hft rfl, Instr.panic]
    rfl
  show Oper.uponIn _ _ _ _ _ _ _ ((execOp (Act.mk t' X.ds).eval _).run X.P w)
  rw [hrun]
  exact hP _ t' w hz
theorem sIf (T : Tb X.P) {x : Operand} {t : TypeId} {td : TypeDesc} {v : Value} (h : GL X ops l k ((d, c, .iface t v) :: e) w) (hg : guardE ops e ⟨some d, .makeInterface t x, ty, pos, af, g⟩ = some c := by exact rfl)
    (hx : Op1 e c x v := by exact Op1.of rfl (fun _ => rfl)) (ht : T.ty t = some td := by exact rfl) (hi : ifaceT td = false := by exact rfl) (hn : Nat.blt d X.n = true := by exact rfl) :
    GL X ops (⟨some d, .makeInterface t x, ty, pos, af, g⟩ :: l) k e w := GL.cons (Step.mkIface T hg hx ht hi hn h)
theorem sPanic {x : Operand} {t : TypeId} {v : Value} (hz : X.px [{ v := .iface t v, recovered := false }] w) (hg : guardE ops e ⟨none, .panic x, ty, pos, af, g⟩ = some none := by exact rfl) (hx : Op1 e none x (.iface t v) := by exact Op1.of rfl (fun _ => rfl)) :
    GL X ops (⟨none, .panic x, ty, pos, af, g⟩ :: l) k e w := GL.consP (StepP.panic hg hx hz)

/-- a guarded call that may panic -/
theorem StepP.on {o : Oper} {c : Bool} (hg : guardE ops e o = some (some c)) (hc : c = true) (h : StepP X ops { o with guard := none } e w N) : StepP X ops o e w N := by
  intro t K Q hf hK hP
  have := h t K Q hf hK hP
  rw [guardE_wanted hf hg]
  subst hc
  rw [if_pos (by rfl)] at this ⊢
  exact this

theorem sCallP {f : FuncId} {args : Array Operand} {ats : Array TypeId} {lo : List Operand} {vs : List Value} {S : Value → World → Prop} {Z : List PanicEntry → World → Prop} (hf : Callable X.P f) (hc : RetP X.P f ⟨vs⟩ w S Z)
    (hz : ∀ ch w', Z ch w' → X.px ch w') (h : ∀ v w', S v w' → GL X ops l k ((d, none, v) :: e) w')
    (hg : guardE ops e ⟨some d, .call { callee := .value (.func f), args := args, argTypes := ats }, ty, pos, af, g⟩ = some none := by exact rfl)
    (ha : args = ⟨lo⟩ := by exact rfl) (hvs : evs e lo = some vs := by exact rfl) (hn : Nat.blt d X.n = true := by exact rfl) :
    GL X ops (⟨some d, .call { callee := .value (.func f), args := args, argTypes := ats }, ty, pos, af, g⟩ :: l) k e w := GL.consP (StepP.callF hg ha hvs hf hn hc hz h)
theorem dCallP {f : FuncId} {args : Array Operand} {ats : Array TypeId} {lo : List Operand} {vs : List Value} {S : Value → World → Prop} {Z : List PanicEntry → World → Prop} (hf : Callable X.P f) (hc : RetP X.P f ⟨vs⟩ w S Z)
    (hz : ∀ ch w', Z ch w' → X.px ch w') (h : ∀ v w', S v w' → W w' ∧ GMN X ops W N lb ((d, none, v) :: e) w')
    (hg : guardE ops e ⟨some d, .call { callee := .value (.func f), args := args, argTypes := ats }, ty, pos, af, g⟩ = some none := by exact rfl)
    (ha : args = ⟨lo⟩ := by exact rfl) (hvs : evs e lo = some vs := by exact rfl) (hn : Nat.blt d X.n = true := by exact rfl) :
    GMN X ops W N ((⟨some d, .call { callee := .value (.func f), args := args, argTypes := ats }, ty, pos, af, g⟩, false) :: lb) e w := GM.effP (StepP.callF hg ha hvs hf hn hc hz h)
end steps

/-! ### A world changed at one block, with more behind it -/
structure Kp (b : Nat) (w w' : World) : Prop where
  os : w'.os = w.os
  tape : w'.tape = w.tape
  output : w'.output = w.output
  size : w.heap.size ≤ w'.heap.size
  block : ∀ k, k < w.heap.size → k ≠ b → w'.heap[k]? = w.heap[k]?
theorem Kp.refl (b : Nat) (w : World) : Kp b w w := ⟨rfl, rfl, rfl, Nat.le_refl _, fun _ _ _ => rfl⟩
theorem Kp.trans {b : Nat} {w w1 w2 : World} (h : Kp b w w1) (k : Kp b w1 w2) : Kp b w w2 :=
  ⟨k.os.trans h.os, k.tape.trans h.tape, k.output.trans h.output, Nat.le_trans h.size k.size, fun i hi hne => (k.block i (Nat.lt_of_lt_of_le hi h.size) hne).trans (h.block i hi hne)⟩
theorem Ext.kp {b : Nat} {w w' : World} (h : Ext w w') : Kp b w w' := ⟨h.os, h.tape, h.output, h.size, fun i hi _ => h.block i hi⟩
theorem Wr.kp {b : Nat} {w w' : World} (h : Wr b w w') : Kp b w w' := ⟨h.os, h.tape, h.output, by rw [h.size]; exact Nat.le_refl _, fun i _ hne => h.block i hne⟩
/-- a change of a block that was not there before -/
theorem Kp.new {b c : Nat} {w w1 w2 : World} (h : Kp b w w1) (k : Kp c w1 w2) (hc : w.heap.size ≤ c) : Kp b w w2 :=
  ⟨k.os.trans h.os, k.tape.trans h.tape, k.output.trans h.output, Nat.le_trans h.size k.size, fun i hi hne => (k.block i (Nat.lt_of_lt_of_le hi h.size) (by omega)).trans (h.block i hi hne)⟩
theorem Ext.ofKp {c : Nat} {w w1 w2 : World} (h : Ext w w1) (k : Kp c w1 w2) (hc : w.heap.size ≤ c) : Ext w w2 :=
  ⟨k.os.trans h.os, k.tape.trans h.tape, k.output.trans h.output, Nat.le_trans h.size k.size, fun i hi => (k.block i (Nat.lt_of_lt_of_le hi h.size) (by omega)).trans (h.block i hi)⟩
theorem Bx.kp {b c : Nat} {w w' : World} {us : List Value} (h : Bx w c us) (k : Kp b w w') (hne : c ≠ b) : Bx w' c us := by
  obtain ⟨t, h⟩ := h
  exact ⟨t, by rw [k.block c (Array.getElem?_eq_some_iff.1 h).1 hne]; exact h⟩
theorem Owns.kp {b B : Nat} {w w' : World} {v : Value} {et k : Nat} {xs : List (List Value)} (h : Owns w B v et k xs) (hk : Kp b w w') (hb : b < B) : Owns w' B v et k xs := by
  obtain ⟨⟨hl, h⟩, h0⟩ := h
  refine ⟨⟨hl, ?_⟩, h0⟩
  rcases h with h | ⟨g, cap, cur, h1, h2, h3, h4⟩
  · exact .inl h
  · exact .inr ⟨g, cap, cur, h1, h2, by rw [hk.block g (Array.getElem?_eq_some_iff.1 h3).1 (by omega)]; exact h3, h4⟩
theorem CellAt.kp {b : Nat} {w w' : World} {p u : Value} (h : CellAt w p u) (k : Kp b w w') (hne : ∀ a, p = .pointer (some a) → a.block ≠ b) : CellAt w' p u := by
  obtain ⟨a, rfl, hc⟩ := h
  refine ⟨a, rfl, ?_⟩
  have hlt := World.block_lt_of_cell? w a hc
  have := k.block a.block hlt (hne a rfl)
  unfold World.cell? at hc ⊢
  rw [this]; exact hc
end Go.Vg
end
section
namespace Go.Vg
open Go.RowKit
section
variable {X : Cx} {ops : Array Oper} {l : List Oper} {k : List Kt} {e : Env} {w : World} {N : Env → World → Prop} {d : Nat} {c : Option Bool} {ty : TypeId} {pos : String} {af : Array Edge} {g : Option (Nat × Bool)}
theorem Step.min2 {x y : Operand} {t1 t2 : TypeId} {q : IntKind} {a b : Int} (hg : guardE ops e ⟨some d, .call { callee := .builtin .min, args := #[x, y], argTypes := #[t1, t2] }, ty, pos, af, g⟩ = some none)
    (hx : Op1 e none x (.int q a)) (hy : Op1 e none y (.int q b)) (hn : Nat.blt d X.n = true)
    (h : N ((d, none, .int q (if b < a then b else a)) :: e) w) : Step X ops ⟨some d, .call { callee := .builtin .min, args := #[x, y], argTypes := #[t1, t2] }, ty, pos, af, g⟩ e w N :=
  Step.eff rfl (by simpa [Nat.blt_eq] using hn) hg (fun _ hh => by cases hh) (fun t' hf => run_builtin2 (hx.val hf rfl) (hy.val hf rfl) fun cs => by
    simp [builtin, Builtin.min_, Builtin.min2]) h
end
end Go.Vg
end
section
namespace Go.Vg
open Go.RowKit Go.Proofs Go.Lib

/-- an iterator over a text -/
def Its (w : World) (b : Nat) (s : List UInt8) (i : Nat) : Prop := w.heap[b]? = some (.stringIter ⟨⟨s⟩⟩ i)
section
variable {X : Cx} {ops : Array Oper} {l : List Oper} {kk : List Kt} {e : Env} {w : World} {N : Env → World → Prop} {d : Nat} {c : Option Bool} {ty : TypeId} {pos : String} {af : Array Edge} {g : Option (Nat × Bool)}

theorem Step.rangeS (T : Tb X.P) {x : Operand} {t : TypeId} {s : List UInt8} (hg : guardE ops e ⟨some d, .range t x, ty, pos, af, g⟩ = some none)
    (hx : Op1 e none x (S s)) (ht : T.ty t = some .string) (hn : Nat.blt d X.n = true)
    (h : ∀ w', Its w' w.heap.size s 0 → Ext w w' → N ((d, none, ptr w.heap.size) :: e) w') : Step X ops ⟨some d, .range t x, ty, pos, af, g⟩ e w N :=
  Step.eff (v := ptr w.heap.size) (w' := w.iter ⟨⟨s⟩⟩ 0) rfl (by simpa [Nat.blt_eq] using hn) hg (fun _ hh => by cases hh) (fun t' hf => by
    simp only [execOp, hx.val hf rfl, S, Sem.run_bind, run_range_string w t ⟨⟨s⟩⟩ (T.ok _ _ ht), Result.andThen_ok, Sem.run_pure]
    rfl) (h _ (World.iter_heap _ _ _) (Ext.alloc _ _))
theorem wr_iterAt (w : World) (b : Nat) (s : ByteArray) (i : Nat) : Wr b w (w.iterAt b s i) := ⟨rfl, rfl, rfl, iterAt_size _ _ _ _, fun _ hk => iterAt_other _ _ _ _ _ hk⟩
theorem Step.nextS {x : Operand} {s : List UInt8} {b i : Nat} (hg : guardE ops e ⟨some d, .next x true, ty, pos, af, g⟩ = some none) (hi : Its w b s i)
    (hx : Op1 e none x (ptr b)) (hlt : i < s.length) (hn : Nat.blt d X.n = true)
    (h : ∀ w', Its w' b s (i + (Utf8.decode ⟨⟨s⟩⟩ i).2) → Wr b w w' → N ((d, none, .tuple ⟨[.bool true, .int .i64 i, .int .i32 (Utf8.decode ⟨⟨s⟩⟩ i).1]⟩) :: e) w') : Step X ops ⟨some d, .next x true, ty, pos, af, g⟩ e w N :=
  Step.eff (v := .tuple ⟨[.bool true, .int .i64 i, .int .i32 (Utf8.decode ⟨⟨s⟩⟩ i).1]⟩) (w' := w.iterAt b ⟨⟨s⟩⟩ (i + (Utf8.decode ⟨⟨s⟩⟩ i).2)) rfl (by simpa [Nat.blt_eq] using hn) hg (fun _ hh => by cases hh) (fun t' hf => by
    simp only [execOp, hx.val hf rfl, ptr, Sem.run_bind, run_next_any_at w b ⟨⟨s⟩⟩ i ty hi hlt, Result.andThen_ok, Sem.run_pure]) (h _ (iterAt_heap _ _ _ _ _ hi) (wr_iterAt _ _ _ _))
theorem Step.nextE {x : Operand} {s : List UInt8} {b i : Nat} (hg : guardE ops e ⟨some d, .next x true, ty, pos, af, g⟩ = some none) (hi : Its w b s i)
    (hx : Op1 e none x (ptr b)) (hlt : ¬ i < s.length) (hn : Nat.blt d X.n = true)
    (h : N ((d, none, .tuple ⟨[.bool false]⟩) :: e) w) : Step X ops ⟨some d, .next x true, ty, pos, af, g⟩ e w N :=
  Step.eff (v := .tuple ⟨[.bool false]⟩) (w' := w) rfl (by simpa [Nat.blt_eq] using hn) hg (fun _ hh => by cases hh) (fun t' hf => by
    simp only [execOp, hx.val hf rfl, ptr, Sem.run_bind, run_next_end_at w b ⟨⟨s⟩⟩ i ty hi hlt, Result.andThen_ok, Sem.run_pure]) h
theorem decode_asc (s : List UInt8) (i : Nat) (h : i < s.length) (ha : (s.getD i 0).toNat < 128) : Utf8.decode ⟨⟨s⟩⟩ i = ((s.getD i 0).toNat, 1) := by
  have e : ((ByteArray.mk ⟨s⟩)[i]'h) = s.getD i 0 := by
    rw [List.getD_eq_getElem?_getD, List.getElem?_eq_getElem h]
    rfl
  rw [decode_ascii _ _ h (by rw [e]; exact ha), e]
/-- a character's bytes -/
def encL (n : Int) : List UInt8 := (Utf8.encode n).data.toList
theorem encL_high (n : Int) (hv : Utf8.valid n = true) (h : 128 ≤ n) : 2 ≤ (encL n).length ∧ (encL n).length ≤ 4 ∧ 128 ≤ ((encL n).getD ((encL n).length - 1) 0).toNat := by
  obtain ⟨h1, h2, h3⟩ := encode_facts n hv h
  have h4 : (Utf8.encode n).size - 1 < (Utf8.encode n).size := by omega
  refine ⟨h1, h2, ?_⟩
  have h5 := h3 h4
  have h6 : (encL n).length - 1 < (encL n).length := h4
  rw [List.getD_eq_getElem?_getD, List.getElem?_eq_getElem h6]
  exact h5
theorem Step.runeS (T : Tb X.P) {x : Operand} {src dst : TypeId} {q : IntKind} {n : Int} {sd : TypeDesc} (hg : guardE ops e ⟨some d, .convert src dst x, ty, pos, af, g⟩ = some c) (hx : Op1 e c x (.int q n)) (hs : T.ty src = some sd) (ht : T.ty dst = some .string)
    (hn : Nat.blt d X.n = true) (h : N ((d, c, S (encL n)) :: e) w) : Step X ops ⟨some d, .convert src dst x, ty, pos, af, g⟩ e w N :=
  Step.quiet rfl (by simpa [Nat.blt_eq] using hn) hg (fun _ hh => by cases hh) (fun t hf hc => by
    have := run_convert_int_string (P := X.P) w src dst q n (by simp [T.ok _ _ hs]) (T.ok _ _ ht)
    simp only [execOp, hx.val hf hc, Sem.run_bind, this, Result.andThen_ok, Sem.run_pure]
    rfl) h
theorem sRs (T : Tb X.P) {x : Operand} {src dst : TypeId} {q : IntKind} {n : Int} {sd : TypeDesc} (h : GL X ops l kk ((d, c, S (encL n)) :: e) w) (hg : guardE ops e ⟨some d, .convert src dst x, ty, pos, af, g⟩ = some c := by exact rfl)
    (hx : Op1 e c x (.int q n) := by exact Op1.of rfl (fun _ => rfl)) (hs : T.ty src = some sd := by exact rfl) (ht : T.ty dst = some .string := by exact rfl) (hn : Nat.blt d X.n = true := by exact rfl) :
    GL X ops (⟨some d, .convert src dst x, ty, pos, af, g⟩ :: l) kk e w := GL.cons (Step.runeS T hg hx hs ht hn h)
theorem Step.max2 {x y : Operand} {t1 t2 : TypeId} {q : IntKind} {a b : Int} (hg : guardE ops e ⟨some d, .call { callee := .builtin .max, args := #[x, y], argTypes := #[t1, t2] }, ty, pos, af, g⟩ = some none)
    (hx : Op1 e none x (.int q a)) (hy : Op1 e none y (.int q b)) (hn : Nat.blt d X.n = true)
    (h : N ((d, none, .int q (if a < b then b else a)) :: e) w) : Step X ops ⟨some d, .call { callee := .builtin .max, args := #[x, y], argTypes := #[t1, t2] }, ty, pos, af, g⟩ e w N :=
  Step.eff rfl (by simpa [Nat.blt_eq] using hn) hg (fun _ hh => by cases hh) (fun t' hf => run_builtin2 (hx.val hf rfl) (hy.val hf rfl) fun cs => by
    simp [builtin, Builtin.max_, Builtin.max2]) h
theorem sRg (T : Tb X.P) {x : Operand} {t : TypeId} {s : List UInt8}
    (h : ∀ w', Its w' w.heap.size s 0 → Ext w w' → GL X ops l kk ((d, none, ptr w.heap.size) :: e) w') (hg : guardE ops e ⟨some d, .range t x, ty, pos, af, g⟩ = some none := by exact rfl)
    (hx : Op1 e none x (S s) := by exact Op1.of rfl (fun _ => rfl)) (ht : T.ty t = some .string := by exact rfl) (hn : Nat.blt d X.n = true := by exact rfl) :
    GL X ops (⟨some d, .range t x, ty, pos, af, g⟩ :: l) kk e w := GL.cons (Step.rangeS T hg hx ht hn h)
theorem sNx {x : Operand} {s : List UInt8} {b i : Nat} (hi : Its w b s i) (hlt : i < s.length)
    (h : ∀ w', Its w' b s (i + (Utf8.decode ⟨⟨s⟩⟩ i).2) → Wr b w w' → GL X ops l kk ((d, none, .tuple ⟨[.bool true, .int .i64 i, .int .i32 (Utf8.decode ⟨⟨s⟩⟩ i).1]⟩) :: e) w')
    (hg : guardE ops e ⟨some d, .next x true, ty, pos, af, g⟩ = some none := by exact rfl) (hx : Op1 e none x (ptr b) := by exact Op1.of rfl (fun _ => rfl)) (hn : Nat.blt d X.n = true := by exact rfl) :
    GL X ops (⟨some d, .next x true, ty, pos, af, g⟩ :: l) kk e w := GL.cons (Step.nextS hg hi hx hlt hn h)
theorem sNe {x : Operand} {s : List UInt8} {b i : Nat} (hi : Its w b s i) (hlt : ¬ i < s.length)
    (h : GL X ops l kk ((d, none, .tuple ⟨[.bool false]⟩) :: e) w)
    (hg : guardE ops e ⟨some d, .next x true, ty, pos, af, g⟩ = some none := by exact rfl) (hx : Op1 e none x (ptr b) := by exact Op1.of rfl (fun _ => rfl)) (hn : Nat.blt d X.n = true := by exact rfl) :
    GL X ops (⟨some d, .next x true, ty, pos, af, g⟩ :: l) kk e w := GL.cons (Step.nextE hg hi hx hlt hn h)
end
end Go.Vg
end
