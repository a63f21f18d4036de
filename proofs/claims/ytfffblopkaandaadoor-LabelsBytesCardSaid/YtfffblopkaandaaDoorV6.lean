/- A range over a function, over abstract frames; and the functions that hold one. -/
import Derived.Test.YtfffblopkaandaaDoorV5
import Derived.RangeFuncRecord
import Derived.RangeFuncNested
namespace Go.Vg
open Go.RowKit

def yieldV (l : Nat) : Value := .func (.yield l) #[] #[]

/-- a call of yield in a world: what the round hands back, and leaves -/
def YieldTo (P : Program) (l : Nat) (x : List Value) (W : World) (R : Bool → World → Prop) : Prop :=
  ∃ fn tmps assign body, (Instr.yield l ⟨x⟩).run P W = .ok (.round l fn tmps assign body) W ∧
    RoundIn (FW none) 0 P l fn tmps assign body W fun en W' => ∃ b, en = .returned (.bool b) ∧ R b W'

/-- an iterator tells the xs, one by one, as far as it is asked; D: what it looks at -/
def IterOk (P : Program) (f : FuncId) (cap : List Value) (xs : List (List Value)) (D : World → Prop) : Prop :=
  ∀ (l : Nat) (I : Nat → World → Prop) (St : World → Prop) (w : World), (∀ i W, I i W → D W) → (∀ i W W', I i W → Ext W W' → I i W') → (∀ W W', St W → Ext W W' → St W') → I 0 w →
    (∀ i x W, xs[i]? = some x → I i W → YieldTo P l x W fun b W' => match b with | true => I (i + 1) W' | false => St W') →
    Ret P f ⟨yieldV l :: cap⟩ w fun _ w' => I xs.length w' ∨ St w'

section steps
variable {X : Cx} {ops : Array Oper} {e : Env} {w : World} {N : Env → World → Prop} {d : Nat} {c : Option Bool} {ty : TypeId} {pos : String} {af : Array Edge} {g : Option (Nat × Bool)}

/-- yield is called -/
theorem Step.yield {x : Operand} {l : Nat} {args : Array Operand} {ats : Array TypeId} {lo : List Operand} {vs : List Value} {R : Bool → World → Prop}
    (hg : guardE ops e ⟨some d, .call { callee := .value x, args := args, argTypes := ats }, ty, pos, af, g⟩ = some none)
    (hx : Op1 e none x (yieldV l)) (ha : args = ⟨lo⟩) (hvs : evs e lo = some vs) (hn : Nat.blt d X.n = true) (hy : YieldTo X.P l vs w R)
    (h : ∀ b w', R b w' → N ((d, none, .bool b) :: e) w') : Step X ops ⟨some d, .call { callee := .value x, args := args, argTypes := ats }, ty, pos, af, g⟩ e w N := by
  intro t K Q hf hK
  rw [guardE_wanted hf hg, if_pos (by rfl)]
  refine ⟨fun _ _ => trivial, ?_⟩
  rw [Oper.semAt_eq _ _ _ (fun _ hh => by cases hh)]
  obtain ⟨fn, tmps, assign, body, hrun, hround⟩ := hy
  have h1 := evs_map (ds := X.ds) hf hvs
  subst ha
  have h2 : (Array.mk lo).map (Act.mk t X.ds).eval = ⟨vs⟩ := by simp [h1]
  have h3 : (Act.mk t X.ds).eval x = yieldV l := hx.val hf rfl
  have hr : (execOp (Act.mk t X.ds).eval ⟨some d, .call { callee := .value x, args := ⟨lo⟩, argTypes := ats }, ty, pos, af, g⟩).run X.P w = .ok (.round l fn tmps assign body) w := by
    simp only [execOp, resolve, h2, h3, yieldV, Deferred.ofValue, Sem.run_bind, Sem.run_pure, Result.andThen_ok, invoke, Array.empty_append, hrun]
  show Oper.uponIn _ _ _ _ _ _ _ ((execOp (Act.mk t X.ds).eval _).run X.P w)
  rw [hr]
  refine ⟨fun h => by simp [Fence.wide] at h, ?_⟩
  have h5 : RoundIn (FW X.ρ) 0 X.P l fn tmps assign body w fun en W' => ∃ b, en = .returned (.bool b) ∧ R b W' := hround
  refine h5.mono ?_
  rintro en w' ⟨b, rfl, hR⟩
  show K (Act.put _ (some d) (.bool b)) w'
  exact hK _ _ _ (h b w' hR) (hf.put (by simpa [Nat.blt_eq] using hn) none (.bool b))
end steps

/-- W' is W but for block l, and has more behind it -/
def Kept (l : Nat) (W W' : World) : Prop := (∃ rc, W.heap[l]? = some (.loop rc)) ∧ W.grownBy W' (some l)

theorem Kept.block {l k : Nat} {W W' : World} {o : Obj} (h : Kept l W W') (hk : W.heap[k]? = some o) (ho : ∀ rc, o ≠ .loop rc) : W'.heap[k]? = some o := by
  obtain ⟨⟨rc, hl⟩, hg⟩ := h
  rw [hg.block k (Array.getElem?_eq_some_iff.1 hk).1 (fun e => by simp only [Option.some.injEq] at e; subst e; rw [hl] at hk; exact ho rc (Option.some.inj hk).symm)]
  exact hk
theorem Kept.cell {l : Nat} {W W' : World} {a : Addr} {u : Value} (h : Kept l W W') (hc : W.cell? a = some u) : W'.cell? a = some u := by
  unfold World.cell? at hc
  split at hc
  · rename_i cc ee ff hb
    have := h.block hb (fun _ hh => by cases hh)
    unfold World.cell?
    rw [this]; exact hc
  · cases hc
theorem CellAt.kept {l : Nat} {W W' : World} {p u : Value} (h : CellAt W p u) (hk : Kept l W W') : CellAt W' p u := by
  obtain ⟨a, rfl, hc⟩ := h; exact ⟨a, rfl, hk.cell hc⟩
theorem CellsAt.kept {l : Nat} {W W' : World} {p : Value} {us : List Value} (h : CellsAt W p us) (hk : Kept l W W') : CellsAt W' p us := by
  obtain ⟨a, rfl, hs, hc⟩ := h; exact ⟨a, rfl, hs, fun i u hi => hk.cell (hc i u hi)⟩
theorem Bx.kept {l b : Nat} {W W' : World} {us : List Value} (h : Bx W b us) (hk : Kept l W W') : Bx W' b us := by
  obtain ⟨t, h2⟩ := h; exact ⟨t, hk.block h2 (fun _ hh => by cases hh)⟩
theorem Sli.kept {l k : Nat} {W W' : World} {v : Value} {xs : List (List Value)} (h : Sli W v k xs) (hk : Kept l W W') : Sli W' v k xs := by
  rcases h with h | ⟨a, cap, h1, h2, h3, h4, h5, h6⟩
  · exact .inl h
  · exact .inr ⟨a, cap, h1, h2, h3, h4, fun i x hx j u hu => hk.cell (h5 i x hx j u hu), h6⟩
theorem _root_.Go.RowKit.Below.kept {l B : Nat} {w0 W W' : World} (h : Below B w0 W) (hk : Kept l W W') (hB : B ≤ l) (hB' : B ≤ W.heap.size) : Below B w0 W' := by
  obtain ⟨_, hg⟩ := hk
  exact h.trans ⟨hg.os, hg.tape, hg.output, hg.size, fun k hk => hg.block k (by omega) (fun e => by simp only [Option.some.injEq] at e; omega)⟩
theorem kept_put {l : Nat} {W : World} {rc : Loop} (h : W.heap[l]? = some (.loop rc)) (o : Obj) : Kept l W (W.putObj l o) :=
  ⟨⟨rc, h⟩, ⟨rfl, rfl, rfl, by simp, fun _ _ hne => World.putObj_heap_other (fun e => hne (by rw [e]))⟩⟩
theorem kept_ext {l : Nat} {W W' : World} {rc : Loop} (h : W.heap[l]? = some (.loop rc)) (hx : Ext W W') : Kept l W W' :=
  ⟨⟨rc, h⟩, ⟨hx.os, hx.tape, hx.output, hx.size, fun k hk _ => hx.block k hk⟩⟩

/-- the loop's record and the block for the rounds' deferred calls -/
structure Lp (l r : Nat) (rc : Loop) (w : World) : Prop where
  rcd : w.heap[l]? = some (.loop rc)
  dfr : w.heap[r]? = some (.deferred (some []))
theorem Lp.to {l r : Nat} {rc : Loop} {w w' : World} (h : Lp l r rc w) (hx : Ext w w') : Lp l r rc w' :=
  ⟨by rw [hx.block l (Array.getElem?_eq_some_iff.1 h.rcd).1]; exact h.rcd, by rw [hx.block r (Array.getElem?_eq_some_iff.1 h.dfr).1]; exact h.dfr⟩
theorem Lp.wr {l r b : Nat} {rc : Loop} {w w' : World} {us : List Value} (h : Lp l r rc w) (hb : Bx w b us) (hx : Wr b w w') : Lp l r rc w' := by
  obtain ⟨t, hb⟩ := hb
  exact ⟨by rw [hx.block l (fun e => by subst e; rw [h.rcd] at hb; cases hb)]; exact h.rcd, by rw [hx.block r (fun e => by subst e; rw [h.dfr] at hb; cases hb)]; exact h.dfr⟩
def Df (r : Nat) (w : World) : Prop := w.heap[r]? = some (.deferred (some []))
theorem Df.to {r : Nat} {w w' : World} (h : Df r w) (hx : Ext w w') : Df r w' := by
  unfold Df at *; rw [hx.block r (Array.getElem?_eq_some_iff.1 h).1]; exact h

def bindE (e : Env) : List Nat → List Value → Env
  | p :: ps, v :: vs => bindE ((p, none, v) :: e) ps vs
  | _, _ => e
theorem fits_bind {n : Nat} : ∀ (ps : List Nat) (vs : List Value) (e : Env) (t : Array Value), Fits n e t → (ps.all fun p => Nat.blt p n) = true →
    Fits n (bindE e ps vs) ((ps.zip vs).foldl (fun t x => t.setIfInBounds x.1 x.2) t)
  | [], _, _, _, h, _ => h
  | _ :: _, [], _, _, h, _ => h
  | p :: ps, v :: vs, e, t, h, hp => by
    simp only [List.all_cons, Bool.and_eq_true] at hp
    have h1 := h.put (by simpa [Nat.blt_eq] using hp.1) none v
    exact fits_bind ps vs _ _ h1 hp.2

/-- how a round may be left -/
def roundFin (l r : Nat) (rc : Loop) (I1 : World → Prop) (J : Code → World → Prop) : Exit → Act → World → Prop
  | .normal, _, w => Lp l r rc w ∧ I1 w
  | .ret, _, w => Lp l r rc w ∧ J .ret w
  | .exit id, _, w => Lp l r rc w ∧ J (.exit id) w
  | .goto t, _, w => Lp l r rc w ∧ J (.goto t) w
  | _, _, _ => False

/-- the assignments to the loop's variables have been done -/
def begFin (l r : Nat) (rc : Loop) (Xb : Cx) (body : Code) : Exit → Act → World → Prop := fun ex a w1 =>
  ex = .normal ∧ a.defers = [] ∧ ∃ e1, Fits Xb.n e1 a.tmps ∧ Lp l r rc w1 ∧ G Xb [.code body] e1 (w1.putObj l (.loop { rc with state := .busy }))

theorem G.beg {l r : Nat} {rc : Loop} {Xb Xa : Cx} {body : Code} {e : Env} {w : World} (hX : Xa.fin = begFin l r rc Xb body) (hn : Xa.n = Xb.n) (hd : Xa.ds = []) (hl : Lp l r rc w) (hlr : l ≠ r)
    (h : ∀ w2, Kept l w w2 → Lp l r { rc with state := .busy } w2 → w2.heap.size = w.heap.size → G Xb [.code body] e w2) : G Xa [] e w := by
  refine G.nil fun t ht => ?_
  rw [hX]
  refine ⟨rfl, hd, e, hn ▸ ht, hl, h _ (kept_put hl.rcd _) ⟨World.putObj_heap_same (Array.getElem?_eq_some_iff.1 hl.rcd).1, ?_⟩ (by simp)⟩
  rw [World.putObj_heap_other (Ne.symm hlr)]; exact hl.dfr

theorem run_rangeCall {P : Program} {a : Act} {g : Operand} {f : FuncId} {cap : List Value} (hv : a.eval g = .func (.func f) #[] ⟨cap⟩) (l : Nat) (w : World) :
    (resolve a.eval (rangeCall g l) 0).run P w = .ok { target := .fn (.func f) ⟨cap⟩, args := #[yieldV l] } w := by
  have h2 : a.eval (.const (.func (.yield l) #[] #[])) = yieldV l := rfl
  simp only [resolve, hv, Deferred.ofValue, Sem.run_pure, List.map_toArray, List.map_cons, List.map_nil, h2, Array.empty_append]

theorem G.rangeFunc {X : Cx} {k : List Kt} {e : Env} {w : World} {g : Operand} {ps : Array Tmp} {assign body : Code} {f : FuncId} {cap : List Value} {xs : List (List Value)} {D : World → Prop} {psl : List Nat}
    (hρ : X.ρ = none) (hg : ev e g = some (none, .func (.func f) #[] ⟨cap⟩)) (hf : Callable X.P f) (hit : IterOk X.P f cap xs D) (hps : ps = ⟨psl⟩) (hpn : (psl.all fun p => Nat.blt p X.n) = true)
    (hlen : ∀ x ∈ xs, x.length = psl.length)
    (I : Nat → World → Prop) (J : Code → World → Prop)
    (hkI : ∀ l, w.heap.size ≤ l → ∀ i W W', I i W → Kept l W W' → I i W') (hkJ : ∀ l, w.heap.size ≤ l → ∀ c W W', J c W → Kept l W W' → J c W')
    (hD : ∀ i W, I i W → D W) (h0 : ∀ w', Ext w w' → I 0 w')
    (hround : ∀ l r rc i x W, w.heap.size ≤ l → l ≠ r → xs[i]? = some x → I i W → Lp l r rc W →
      G ⟨some l, X.P, begFin l r rc ⟨some l, X.P, roundFin l r { rc with state := .busy } (I (i + 1)) J, X.n, []⟩ body, X.n, []⟩ [.code assign] (bindE e psl x) W)
    (hdone : ∀ r W, w.heap.size ≤ r → I xs.length W → Df r W → G ⟨none, X.P, X.fin, X.n, ⟨.collected r, #[]⟩ :: X.ds⟩ k e W)
    (hstop : ∀ r c W, w.heap.size ≤ r → J c W → Df r W → G ⟨none, X.P, X.fin, X.n, ⟨.collected r, #[]⟩ :: X.ds⟩ (.code c :: k) e W) :
    G X (.code (.rangeFunc g ps assign body) :: k) e w := by
  intro t hfit
  obtain ⟨ρ, P, fin, n, ds⟩ := X
  simp only at hρ
  subst hρ hps
  simp only at *
  show (Code.rangeFunc g ⟨psl⟩ assign body).wpIn (FW none) 0 P (post none P fin k) ⟨t, ds⟩ w
  refine wpIn_rangeFunc fun fn _ => ?_
  generalize hrec : ({ state := .ready, pending := none, fn, tmps := t, params := ⟨psl⟩, assign, body, defers := w.heap.size } : Loop) = rc
  have hstate : rc.state = .ready := by rw [← hrec]
  have hpend : rc.pending = none := by rw [← hrec]
  have hv : (Act.mk t ds).eval g = .func (.func f) #[] ⟨cap⟩ := hfit.ev1 hg rfl
  refine ⟨w.heap.size + 1, [{ target := .collected w.heap.size, args := #[] }], (w.alloc (.deferred (some []))).alloc (.loop rc), _, _, f, ⟨yieldV (w.heap.size + 1) :: cap⟩, (w.alloc (.deferred (some []))).alloc (.loop rc),
    by rw [← hrec]; exact run_enterLoop_outer _ _ _ _ _, run_rangeCall hv _ _, fun _ _ => trivial, ?_, fun h => by simp [Fence.wide] at h, ?_⟩
  · simp only [invoke]
    have : (#[yieldV (w.heap.size + 1)] ++ (⟨cap⟩ : Array Value)) = ⟨yieldV (w.heap.size + 1) :: cap⟩ := by simp
    rw [this]
    exact run_callFunc hf _ _
  generalize hl : w.heap.size + 1 = l
  have hl0 : w.heap.size ≤ l := by omega
  have hlr : l ≠ w.heap.size := by omega
  have hnew : Lp l w.heap.size rc ((w.alloc (.deferred (some []))).alloc (.loop rc)) := by
    constructor
    · rw [← hl]; exact heap_alloc2_new w _ _
    · exact heap_alloc2_old w _ _
  have hext : Ext w ((w.alloc (.deferred (some []))).alloc (.loop rc)) := (Ext.alloc w _).trans (Ext.alloc _ _)
  have hcall := hit l (fun i W => I i W ∧ Lp l w.heap.size rc W) (fun W => ∃ c, J c W ∧ Lp l w.heap.size { rc with state := .done, pending := some c } W)
    ((w.alloc (.deferred (some []))).alloc (.loop rc)) (fun i W h => hD i W h.1)
    (fun i W W' h hx => ⟨hkI l hl0 i W W' h.1 (kept_ext h.2.rcd hx), h.2.to hx⟩)
    (fun W W' h hx => let ⟨c, h1, h2⟩ := h; ⟨c, hkJ l hl0 c W W' h1 (kept_ext h2.rcd hx), h2.to hx⟩)
    ⟨h0 _ hext, hnew⟩ ?_
  · refine callsW (Calls.mono hcall ?_)
    rintro en W ⟨v, rfl, h | ⟨c, hJ, hL⟩⟩
    · refine ⟨none, _, by have := run_endLoop (P := P) h.2.rcd (by rw [hstate]; simp); rw [hpend] at this; exact this, ?_⟩
      exact hdone w.heap.size _ (Nat.le_refl _) (hkI l hl0 _ _ _ h.1 (kept_put h.2.rcd _)) (by unfold Df; rw [World.putObj_heap_other (Ne.symm hlr)]; exact h.2.dfr) t hfit
    · refine ⟨some c, _, run_endLoop (P := P) hL.rcd (by simp), ?_⟩
      exact hstop w.heap.size c _ (Nat.le_refl _) (hkJ l hl0 _ _ _ hJ (kept_put hL.rcd _)) (by unfold Df; rw [World.putObj_heap_other (Ne.symm hlr)]; exact hL.dfr) t hfit
  · rintro i x W hx ⟨hI, hL⟩
    have hsz : (⟨x⟩ : Array Value).size = rc.params.size := by rw [← hrec]; simpa using hlen x (List.mem_of_getElem? hx)
    have hy := run_yield (P := P) (args := ⟨x⟩) hL.rcd hsz
    refine ⟨_, _, _, _, hy, roundIn_of_wpIn (F := FW none) trivial ?_⟩
    have hG := hround l w.heap.size rc i x W hl0 hlr hx hI hL
    have hfit2 : Fits n (bindE e psl x) ((rc.params.zip ⟨x⟩).foldl (fun tmps (t, a) => tmps.setIfInBounds t a) rc.tmps) := by
      have := fits_bind psl x e t hfit hpn
      rw [← hrec]
      simpa using this
    have h1 := hG _ hfit2
    have ha : rc.assign = assign := by rw [← hrec]
    have hb : rc.body = body := by rw [← hrec]
    rw [← ha, ← hb] at h1
    refine wpIn_mono h1 ?_
    intro ex a w1 hq
    obtain ⟨rfl, hd, e1, hf1, hL1, hbody⟩ := hq
    refine ⟨_, run_beginRound hL1.rcd hstate, ?_⟩
    have h2 := hbody a.tmps hf1
    have ha' : (⟨a.tmps, []⟩ : Act) = a := by rw [← hd]
    simp only [ha'] at h2
    refine wpIn_mono h2 ?_
    intro ex' a' w' hq'
    have fin' : ∀ (jump : Option Code), Lp l w.heap.size { rc with state := .busy } w' → Lp l w.heap.size { rc with state := if jump.isNone then .ready else .done, pending := jump } (w'.putObj l (.loop { rc with state := if jump.isNone then .ready else .done, pending := jump })) := fun jump hL' =>
      ⟨World.putObj_heap_same (Array.getElem?_eq_some_iff.1 hL'.rcd).1, by rw [World.putObj_heap_other (Ne.symm hlr)]; exact hL'.dfr⟩
    cases ex' with
    | normal =>
      obtain ⟨hL', hI'⟩ := hq'
      refine ⟨_, _, run_endRound none hL'.rcd, true, rfl, hkI l hl0 _ _ _ hI' (kept_put hL'.rcd _), ?_⟩
      have := fin' none hL'
      have e : ({ rc with state := if (none : Option Code).isNone then .ready else .done, pending := none } : Loop) = rc := by rw [← hrec]; rfl
      rw [e] at this
      have e2 : ({ ({ rc with state := .busy } : Loop) with state := if (none : Option Code).isNone then .ready else .done, pending := none } : Loop) = rc := by rw [← hrec]; rfl
      rw [e2]
      exact this
    | ret => obtain ⟨hL', hJ'⟩ := hq'; exact ⟨_, _, run_endRound (some .ret) hL'.rcd, false, rfl, .ret, hkJ l hl0 _ _ _ hJ' (kept_put hL'.rcd _), fin' (some .ret) hL'⟩
    | exit id => obtain ⟨hL', hJ'⟩ := hq'; exact ⟨_, _, run_endRound (some (.exit id)) hL'.rcd, false, rfl, .exit id, hkJ l hl0 _ _ _ hJ' (kept_put hL'.rcd _), fin' (some (.exit id)) hL'⟩
    | goto id => obtain ⟨hL', hJ'⟩ := hq'; exact ⟨_, _, run_endRound (some (.goto id)) hL'.rcd, false, rfl, .goto id, hkJ l hl0 _ _ _ hJ' (kept_put hL'.rcd _), fin' (some (.goto id)) hL'⟩
    | panic c => exact hq'.elim
    | outgrown => exact hq'.elim

/-! ### A function that holds such loops -/
def retFinM (P : Program) (fn : Func) (R : Value → World → Prop) : Exit → Act → World → Prop := bodyPostM (FW none) 0 P fn fun en w' => ∃ v, en = .returned v ∧ R v w'

theorem ret_of_GM {P : Program} {f : FuncId} {fn : Func} {c : Code} {vs : List Value} {w : World} {R : Value → World → Prop} {n : Nat}
    (hf : P.funcs[f]? = some fn) (hb : fn.body = some c) (hn : fn.ntmps = n) (hl : Nat.ble vs.length n = true)
    (h : G ⟨none, P, retFinM P fn R, n, []⟩ [.code c] (argEnv 0 vs) w) : Ret P f ⟨vs⟩ w R := by
  have h2 : CallsIn (FW none) 0 P f ⟨vs⟩ w fun en w' => ∃ v, en = .returned v ∧ R v w' := by
    refine callsIn_of_wp_marks hf hb trivial ?_
    have hsz : vs.length ≤ n := by simpa using hl
    have hfit : Fits n (argEnv 0 vs) ((⟨vs⟩ : Array Value) ++ Array.replicate (fn.ntmps - (⟨vs⟩ : Array Value).size) undef) := by
      refine fits_args vs [] 0 rfl (by omega) _ (by simp [hn]; omega) (fun i hi => ?_)
      have hi' : i < vs.length := by omega
      simp [Array.getD_eq_getD_getElem?, List.getD, Array.getElem?_append, hi']
    refine wpIn_mono (h _ hfit) ?_
    intro ex a w' hq
    cases ex <;> exact hq
  exact callsIn_wide.1 h2

/-- the world behind the return of a function that held one loop over a function -/
abbrev outW (r : Nat) (w : World) : World := w.putObj r (.deferred none)
theorem outW_wr (r : Nat) (w : World) : Wr r w (outW r w) := ⟨rfl, rfl, rfl, by simp, fun _ hk => World.putObj_heap_other hk⟩
theorem Df.ne {r b : Nat} {w : World} {us : List Value} (h : Df r w) (hb : Bx w b us) : b ≠ r := by
  rintro rfl
  obtain ⟨t, hb⟩ := hb
  unfold Df at h
  rw [h] at hb; cases hb
theorem Bx.out {r b : Nat} {w : World} {us : List Value} (hb : Bx w b us) (h : Df r w) : Bx (outW r w) b us := hb.wr (outW_wr r w) (h.ne hb)
theorem Df.wr {r b : Nat} {w w' : World} {us : List Value} (h : Df r w) (hb : Bx w b us) (hw : Wr b w w') : Df r w' := by
  have := h.ne hb
  unfold Df at *; rw [hw.block r (Ne.symm this)]; exact h
theorem leave1 {P : Program} {fn : Func} {R : Value → World → Prop} {t : Array Value} {r : Nat} {w : World} (hd : Df r w)
    (h : ∃ v, (results fn t).run P (outW r w) = .ok v (outW r w) ∧ R v (outW r w)) :
    LeavesInM (FW none) 0 P fn t (fun en w' => ∃ v, en = .returned v ∧ R v w') [⟨.collected r, #[]⟩] .returning w := by
  obtain ⟨v, h1, h2⟩ := h
  exact ⟨by simp, .inl ⟨r, _, rfl, run_takeDeferred hd, v, h1, v, rfl, h2⟩⟩
theorem leave0 {P : Program} {fn : Func} {R : Value → World → Prop} {t : Array Value} {w : World}
    (h : ∃ v, (results fn t).run P w = .ok v w ∧ R v w) :
    LeavesInM (FW none) 0 P fn t (fun en w' => ∃ v, en = .returned v ∧ R v w') [] .returning w := by
  obtain ⟨v, h1, h2⟩ := h
  exact ⟨v, h1, v, rfl, h2⟩
theorem G.retM {X : Cx} {k : List Kt} {e : Env} {w : World} {P : Program} {fn : Func} {R : Value → World → Prop} {r : Nat} (hX : X.fin = retFinM P fn R) (hds : X.ds = [⟨.collected r, #[]⟩]) (hd : Df r w)
    (h : ∀ t, Fits X.n e t → ∃ v, (results fn t).run P (outW r w) = .ok v (outW r w) ∧ R v (outW r w)) : G X (.code .ret :: k) e w := by
  refine G.ret fun t ht => ?_
  rw [hX, hds]
  exact leave1 hd (h t ht)
theorem G.retM0 {X : Cx} {k : List Kt} {e : Env} {w : World} {P : Program} {fn : Func} {R : Value → World → Prop} (hX : X.fin = retFinM P fn R) (hds : X.ds = [])
    (h : ∀ t, Fits X.n e t → ∃ v, (results fn t).run P w = .ok v w ∧ R v w) : G X (.code .ret :: k) e w := by
  refine G.ret fun t ht => ?_
  rw [hX, hds]
  exact leave0 (h t ht)
/-- the results, read off the slots -/
theorem res1 {P : Program} {fn : Func} {n : Nat} {e : Env} {t : Array Value} (hf : Fits n e t) {s : Nat} {v : Value} (hr : fn.results = #[.tmp s]) (hv : look e s = some (none, v)) (w : World) :
    (results fn t).run P w = .ok v w := by
  rw [results_tmp hr, (hf.get _ _ _ hv).2]; rfl
/-- one result, in a box -/
theorem resC1 {P : Program} {fn : Func} {n : Nat} {e : Env} {t : Array Value} (hf : Fits n e t) {s ty : Nat} {p u : Value} {d : TypeDesc} (hr : fn.results = #[.cell s ty]) (hv : look e s = some (none, p))
    (ht : P.underlying ty = some d) (ha : aggT d = false) {w : World} (hc : CellAt w p u) : (results fn t).run P w = .ok u w := by
  obtain ⟨a, rfl, hc⟩ := hc
  have h1 : t.getD s undef = .pointer (some a) := (hf.get _ _ _ hv).2
  have h2 : (loadVar ty a).run P w = .ok u w := by
    simp [loadVar, Sem.run_bind, run_isAgg ht, ha, hc]
  simp only [results, hr, List.mapM_toArray, List.mapM_cons, List.mapM_nil, h1, asAddr, Sem.run_bind, Sem.run_map, Sem.run_pure, Result.andThen_ok, h2]
  rfl
end Go.Vg
