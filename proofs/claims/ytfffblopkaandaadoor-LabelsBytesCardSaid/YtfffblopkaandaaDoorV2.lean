/- One operation at a time over abstract frames. -/
import Derived.Test.YtfffblopkaandaaDoorV1
import Derived.WalkLawsBesides
namespace Go.Vg

/-- is an operation carried out? by what the environment says -/
def guardE (ops : Array Oper) (e : Env) (o : Oper) : Option (Option Bool) :=
  match o.guard with
  | none => some none
  | some (j, want) => match ops[j]? with
    | some o' => match o'.dst with
      | some d => match look e d with
        | some (c, .bool b) => match c, want with
          | none, true => some (some b)
          | none, false => some (some (!b))
          | some c, true => some (some (c && b))
          | some c, false => some (some (c && !b))
        | _ => none
      | none => none
    | none => none

theorem guardE_wanted {n : Nat} {e : Env} {t : Array Value} (h : Fits n e t) {ops : Array Oper} {o : Oper} {c : Option Bool} (hg : guardE ops e o = some c) :
    Region.wanted o (yielded ops t) = cv c := by
  unfold guardE at hg
  unfold Region.wanted
  cases hgd : o.guard with
  | none => rw [hgd] at hg; cases hg; rfl
  | some p =>
    obtain ⟨j, want⟩ := p
    rw [hgd] at hg
    simp only at hg ⊢
    unfold yielded
    split at hg
    · rename_i o' ho'
      split at hg
      · rename_i d hd
        split at hg
        · rename_i c' b hl
          obtain ⟨hdn, hv⟩ := h.get _ _ _ hl
          have ht : t[d]? = some (gval c' (.bool b)) := by
            rw [← hv]; simp [Array.getD_eq_getD_getElem?, h.size, hdn]
          rw [ho']
          simp only [Option.bind_some, hd, ht]
          cases c' with
          | none => cases want <;> cases hg <;> cases b <;> rfl
          | some c' => cases want <;> cases hg <;> cases c' <;> cases b <;> rfl
        · cases hg
      · cases hg
    · cases hg

/-- one operation: whatever follows in a frame of a later environment -/
def Step (X : Cx) (ops : Array Oper) (o : Oper) (e : Env) (w : World) (N : Env → World → Prop) : Prop :=
  ∀ (t : Array Value) (K : Act → World → Prop) (Q : Exit → Act → World → Prop), Fits X.n e t →
    (∀ e' w' t', N e' w' → Fits X.n e' t' → K ⟨t', X.ds⟩ w') →
    if Region.wanted o (yielded ops t) = true then o.wpIn (FW X.ρ) 0 X.P ⟨t, X.ds⟩ w K Q else K (Act.put ⟨t, X.ds⟩ o.dst undef) w

section steps
variable {X : Cx} {ops : Array Oper} {o : Oper} {e : Env} {w : World} {N : Env → World → Prop}

/-- an operation that is not carried out -/
theorem Step.off {d : Nat} (hd : o.dst = some d) (hn : d < X.n) (hg : guardE ops e o = some (some false)) {v : Value} (h : N ((d, some false, v) :: e) w) : Step X ops o e w N := by
  intro t K Q hf hK
  rw [guardE_wanted hf hg, if_neg (by simp [cv])]
  simp only [Act.put, hd]
  exact hK _ _ _ h (hf.put hn (some false) v)

theorem Step.offNone (hd : o.dst = none) (hg : guardE ops e o = some (some false)) (h : N e w) : Step X ops o e w N := by
  intro t K Q hf hK
  rw [guardE_wanted hf hg, if_neg (by simp [cv])]
  simp only [Act.put, hd]
  exact hK _ _ _ h hf

theorem wpIn_run {v : Value} {w' : World} {t : Array Value} {K : Act → World → Prop} {Q : Exit → Act → World → Prop} (hnd : ∀ c, o.op ≠ .defer c)
    (hrun : (execOp (Act.eval ⟨t, X.ds⟩) o).run X.P w = .ok (.value v) w') (hK : K (Act.put ⟨t, X.ds⟩ o.dst v) w') : o.wpIn (FW X.ρ) 0 X.P ⟨t, X.ds⟩ w K Q := by
  refine ⟨fun _ _ => trivial, ?_⟩
  rw [Oper.semAt_eq _ _ _ hnd]
  show o.uponIn _ _ _ _ _ _ ((execOp (Act.eval ⟨t, X.ds⟩) o).run X.P w)
  rw [hrun]
  exact hK

/-- an operation that only yields a value -/
theorem Step.quiet {d : Nat} {c : Option Bool} {v : Value} (hd : o.dst = some d) (hn : d < X.n) (hg : guardE ops e o = some c) (hnd : ∀ c, o.op ≠ .defer c)
    (hrun : ∀ t, Fits X.n e t → cv c = true → (execOp (Act.eval ⟨t, X.ds⟩) o).run X.P w = .ok (.value v) w) (h : N ((d, c, v) :: e) w) : Step X ops o e w N := by
  intro t K Q hf hK
  rw [guardE_wanted hf hg]
  have hfin : K (Act.put ⟨t, X.ds⟩ o.dst (gval c v)) w := by simp only [Act.put, hd]; exact hK _ _ _ h (hf.put hn c v)
  cases hcv : cv c with
  | true => rw [if_pos rfl]; simp only [gval, hcv] at hfin; exact wpIn_run hnd (hrun t hf hcv) hfin
  | false => rw [if_neg (by simp)]; simp only [gval, hcv] at hfin; exact hfin

/-- an operation that turns the world -/
theorem Step.eff {d : Nat} {v : Value} {w' : World} (hd : o.dst = some d) (hn : d < X.n) (hg : guardE ops e o = some none) (hnd : ∀ c, o.op ≠ .defer c)
    (hrun : ∀ t, Fits X.n e t → (execOp (Act.eval ⟨t, X.ds⟩) o).run X.P w = .ok (.value v) w') (h : N ((d, none, v) :: e) w') : Step X ops o e w N := by
  intro t K Q hf hK
  rw [guardE_wanted hf hg, if_pos (by rfl)]
  refine wpIn_run hnd (hrun t hf) ?_
  simp only [Act.put, hd]; exact hK _ _ _ h (hf.put hn none v)

/-- likewise, nothing kept of the value (a store) -/
theorem Step.effNone {w' : World} (hd : o.dst = none) (hg : guardE ops e o = some none) (hnd : ∀ c, o.op ≠ .defer c)
    (hrun : ∀ t, Fits X.n e t → (execOp (Act.eval ⟨t, X.ds⟩) o).run X.P w = .ok .skip w') (h : N e w') : Step X ops o e w N := by
  intro t K Q hf hK
  rw [guardE_wanted hf hg, if_pos (by rfl)]
  refine ⟨fun _ _ => trivial, ?_⟩
  rw [Oper.semAt_eq _ _ _ hnd]
  show o.uponIn _ _ _ _ _ _ ((execOp (Act.eval ⟨t, X.ds⟩) o).run X.P w)
  rw [hrun t hf]
  show K (Act.put _ o.dst undef) w'
  simp only [Act.put, hd]
  exact hK _ _ _ h hf

/-- a guard that is not decided: both ways -/
theorem Step.on {c : Bool} (hg : guardE ops e o = some (some c)) (hc : c = true) (h : Step X ops { o with guard := none } e w N) : Step X ops o e w N := by
  intro t K Q hf hK
  have := h t K Q hf hK
  rw [guardE_wanted hf hg]
  subst hc
  rw [if_pos (by rfl)] at this ⊢
  exact this
theorem Step.off' {c : Bool} {d : Nat} (hg : guardE ops e o = some (some c)) (hd : o.dst = some d) (hn : Nat.blt d X.n = true) (hc : c = false) (h : N ((d, some false, undef) :: e) w) : Step X ops o e w N := by
  subst hc
  exact Step.off hd (by simpa [Nat.blt_eq] using hn) hg h

/-- a contract: it returns, and S holds -/
def Ret (P : Program) (f : FuncId) (args : Array Value) (w : World) (S : Value → World → Prop) : Prop :=
  Calls P f args w fun en w' => ∃ v, en = .returned v ∧ S v w'

theorem Ret.mono {P : Program} {f : FuncId} {args : Array Value} {S S' : Value → World → Prop} (h : Ret P f args w S) (hs : ∀ v w', S v w' → S' v w') : Ret P f args w S' :=
  Calls.mono h fun _ _ ⟨v, he, hv⟩ => ⟨v, he, hs _ _ hv⟩

theorem callsW {ρ : Option Nat} {n : Nat} {P : Program} {f : FuncId} {args : Array Value} {R : Ending → World → Prop} (h : Calls P f args w R) : CallsIn (FW ρ) n P f args w R :=
  callsIn_wide (n := n) |>.2 h

/-- a call, once its target is known -/
theorem Step.call {d : Nat} {f : FuncId} {args : Array Value} {S : Value → World → Prop} (hd : o.dst = some d) (hn : d < X.n) (hg : guardE ops e o = some none)
    (hnd : ∀ c, o.op ≠ .defer c)
    (hrun : ∀ t, Fits X.n e t → (execOp (Act.eval ⟨t, X.ds⟩) o).run X.P w = .ok (.enter f args) w) (hc : Ret X.P f args w S)
    (h : ∀ v w', S v w' → N ((d, none, v) :: e) w') : Step X ops o e w N := by
  intro t K Q hf hK
  rw [guardE_wanted hf hg, if_pos (by rfl)]
  refine ⟨fun _ _ => trivial, ?_⟩
  rw [Oper.semAt_eq _ _ _ hnd]
  show o.uponIn _ _ _ _ _ _ ((execOp (Act.eval ⟨t, X.ds⟩) o).run X.P w)
  rw [hrun t hf]
  refine ⟨fun h => by simp [Fence.wide] at h, callsW (Calls.mono hc ?_)⟩
  rintro en w' ⟨v, rfl, hS⟩
  show K (Act.put _ o.dst v) w'
  simp only [Act.put, hd]
  exact hK _ _ _ (h v w' hS) (hf.put hn none v)

theorem Step.callNone {f : FuncId} {args : Array Value} {S : Value → World → Prop} (hd : o.dst = none) (hg : guardE ops e o = some none)
    (hnd : ∀ c, o.op ≠ .defer c)
    (hrun : ∀ t, Fits X.n e t → (execOp (Act.eval ⟨t, X.ds⟩) o).run X.P w = .ok (.enter f args) w) (hc : Ret X.P f args w S)
    (h : ∀ v w', S v w' → N e w') : Step X ops o e w N := by
  intro t K Q hf hK
  rw [guardE_wanted hf hg, if_pos (by rfl)]
  refine ⟨fun _ _ => trivial, ?_⟩
  rw [Oper.semAt_eq _ _ _ hnd]
  show o.uponIn _ _ _ _ _ _ ((execOp (Act.eval ⟨t, X.ds⟩) o).run X.P w)
  rw [hrun t hf]
  refine ⟨fun h => by simp [Fence.wide] at h, callsW (Calls.mono hc ?_)⟩
  rintro en w' ⟨v, rfl, hS⟩
  show K (Act.put _ o.dst v) w'
  simp only [Act.put, hd]
  exact hK _ _ _ (h v w' hS) hf
end steps

/-- a region's operations, in the order of the text -/
def wpL (ρ : Option Nat) (P : Program) (ops : Array Oper) (Q : Exit → Act → World → Prop) : List Oper → Act → World → Prop
  | [], a, w => Q .normal a w
  | o :: rest, a, w => if Region.wanted o (yielded ops a.tmps) = true then o.wpIn (FW ρ) 0 P a w (wpL ρ P ops Q rest) Q else wpL ρ P ops Q rest (a.put o.dst undef) w

theorem wpL_wpOps {ρ : Option Nat} {P : Program} {ops : Array Oper} {Q : Exit → Act → World → Prop} (l : List Oper) : ∀ k, (∀ j, l[j]? = ops[k + j]?) →
    ∀ a w, wpL ρ P ops Q l a w → wpOpsIn (FW ρ) 0 P ops Q (List.range' k l.length) a w := by
  induction l with
  | nil => intro k _ a w h; exact h
  | cons o l ih =>
    intro k hl a w h
    have h0 : ops[k]? = some o := by simpa using (hl 0).symm
    have ih' := ih (k + 1) (fun j => by have := hl (j + 1); simpa [Nat.add_assoc, Nat.add_comm 1 j] using this)
    simp only [List.length_cons, List.range'_succ, wpOpsIn, h0]
    simp only [wpL] at h
    split at h
    · rename_i hw
      rw [if_pos hw]
      refine ⟨h.1, ?_⟩
      have h2 := h.2
      revert h2
      generalize (o.semAt (FW ρ).round a.eval).run P w = r
      intro h2
      cases r with
      | ok x w' =>
        cases x <;> first | exact h2.elim | exact ih' _ _ h2 | skip
        case enter f args =>
          refine ⟨h2.1, h2.2.mono ?_⟩
          intro en w'' hr
          cases en <;> first | exact ih' _ _ hr | exact hr
        case row f args => exact ⟨h2.1, h2.2.mono fun v w'' hr => ih' _ _ hr⟩
        case round =>
          refine ⟨h2.1, h2.2.mono ?_⟩
          intro en w'' hr
          cases en <;> first | exact ih' _ _ hr | exact hr
      | halt x w' => cases x <;> first | exact h2.elim | exact h2
    · rename_i hw
      rw [if_neg hw]
      exact ⟨fun _ _ => trivial, ih' _ _ h⟩

/-- what is left of a region in the order of the text -/
def GL (X : Cx) (ops : Array Oper) (l : List Oper) (k : List Kt) (e : Env) (w : World) : Prop :=
  ∀ t, Fits X.n e t → wpL X.ρ X.P ops (post X.ρ X.P X.fin k) l ⟨t, X.ds⟩ w

section region
variable {X : Cx} {ops : Array Oper} {k : List Kt} {e : Env} {w : World}

theorem GL.nil (h : G X k e w) : GL X ops [] k e w := h
theorem GL.cons {o : Oper} {l : List Oper} (h : Step X ops o e w (fun e' w' => GL X ops l k e' w')) : GL X ops (o :: l) k e w := by
  intro t hf
  exact h t _ _ hf fun e' w' t' hN hf' => hN t' hf'
theorem G.region {id : Nat} {l : List Oper} (h : GL X l.toArray l k e w) : G X (.code (.region id l.toArray false) :: k) e w := by
  intro t hf
  refine wpIn_region ?_
  have := wpL_wpOps l 0 (by simp) _ _ (h t hf)
  simpa [List.range_eq_range'] using this
end region
end Go.Vg
