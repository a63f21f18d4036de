/- Part of the proof of a statement about the given program. -/
import Derived.Test.YtcngoccnfmhhnaaGreatDoorP03
import Derived.Lib.ValidLaws
import Derived.Shelf.Unicode.DecodeSlow
import Derived.Shelf.Strings.Builder1
import Derived.Test.YtcngoccnfmhhnaaGreatDoorProg
import Derived.Shelf.Strings.Builder2
import Derived.Shelf.Strings.OnBuilder
import Derived.Shelf.Strings.Search1
import Derived.Shelf.Strings.Search2
import Derived.Shelf.Strings.Cut
import Derived.Shelf.Strings.Prefix
import Derived.Shelf.Unicode.ValidAny
import Derived.Shelf.Strings.BuilderF
set_option linter.unusedSimpArgs false
set_option linter.unusedVariables false
set_option linter.unusedSectionVars false
section
namespace Go.Vg
open Go.RowKit

/-- as wpAnyS, but behind operation z nothing is asked of the world -/
def wpAnyZ (z : Nat) (ρ : Option Nat) (P : Program) (ops : Array Oper) (ds : List Deferred) (px : List PanicEntry → World → Prop) (Q : Act → World → Prop) (S : World → Prop) : Nat → Array Bool → Act → World → Prop
  | 0, listed, a, w => Region.ready .any ops listed = [] ∧ Q a w
  | fuel + 1, listed, a, w =>
    (Region.ready .any ops listed = [] → Q a w) ∧
    ∀ i ∈ Region.ready .any ops listed, wpOpIn (FW ρ) 0 P ops (pQ ds px) i (fun a' w' => ((listed.setIfInBounds i true).getD z false = true ∨ S w') ∧ wpAnyZ z ρ P ops ds px Q S fuel (listed.setIfInBounds i true) a' w') a w

/-- what is listed is listed with all that it waits for -/
def Closed (ops : Array Oper) (L : Array Bool) : Prop := ∀ j o, ops[j]? = some o → L.getD j false = true → ∀ e ∈ o.after, Region.binds .any e = true → L.getD e.on false = true
theorem Closed.list {ops : Array Oper} {L : Array Bool} {i : Nat} (h : Closed ops L) (hi : i ∈ Region.ready .any ops L) : Closed ops (L.setIfInBounds i true) := by
  intro j o ho hj e he hb
  have up : ∀ q, L.getD q false = true → (L.setIfInBounds i true).getD q false = true := by
    intro q hq
    by_cases hqi : i = q
    · subst hqi
      simp only [Array.getD_eq_getD_getElem?, Array.getElem?_setIfInBounds, if_true] at hq ⊢
      split
      · rfl
      · rename_i hs; simp [Array.getElem?_eq_none (Nat.le_of_not_lt hs)] at hq
    · rw [getD_set_ne false hqi]; exact hq
  by_cases hij : i = j
  · subst hij
    obtain ⟨_, o', ho', hall⟩ := mem_ready.1 hi
    rw [ho] at ho'
    cases ho'
    exact up _ (hall e he hb)
  · rw [getD_set_ne false hij] at hj
    exact up _ (h j o ho hj e he hb)
/-- does z wait for i, through others? -/
def reachB (ops : Array Oper) : Nat → Nat → Nat → Bool
  | 0, z, i => Nat.beq z i
  | n + 1, z, i => Nat.beq z i || (match ops[z]? with | some o => o.after.any (fun e => Region.binds .any e && reachB ops n e.on i) | none => false)
theorem reach_listed {ops : Array Oper} {L : Array Bool} (h : Closed ops L) {i : Nat} : ∀ (n z : Nat), reachB ops n z i = true → L.getD z false = true → L.getD i false = true
  | 0, z, hr, hz => by rw [reachB] at hr; rw [← Nat.eq_of_beq_eq_true hr]; exact hz
  | n + 1, z, hr, hz => by
    rw [reachB, Bool.or_eq_true] at hr
    rcases hr with hr | hr
    · rw [← Nat.eq_of_beq_eq_true hr]; exact hz
    · split at hr
      · rename_i o ho
        obtain ⟨q, hq, hb⟩ := Array.any_eq_true.1 hr
        rw [Bool.and_eq_true] at hb
        exact reach_listed h n _ hb.2 (h z o ho hz _ (Array.getElem_mem hq) hb.1)
      · cases hr

section
variable {ρ : Option Nat} {P : Program} {ops : Array Oper} {ds : List Deferred} {px : List PanicEntry → World → Prop} {Q : Act → World → Prop} {S : World → Prop} {z : Nat}
theorem wpAnyZ_any {Q' : Exit → Act → World → Prop} (hQ : ∀ a w, Q a w → Q' .normal a w) (hP : ∀ ch a w, pQ ds px (.panic ch) a w → Q' (.panic ch) a w) : ∀ (fuel : Nat) (listed : Array Bool) (a : Act) (w : World), wpAnyZ z ρ P ops ds px Q S fuel listed a w →
    wpAnyIn (FW ρ) 0 P .any ops Q' fuel listed a w
  | 0, _, _, _, h => ⟨h.1, hQ _ _ h.2⟩
  | fuel + 1, _, _, _, h => ⟨fun hr => hQ _ _ (h.1 hr), fun i hi => wpOpIn_mono' hP (fun a' w' hk => wpAnyZ_any hQ hP fuel _ a' w' hk.2) (h.2 i hi)⟩

theorem wpAnyZ_first {i : Nat} (hzz : i ≠ z) (hz : ∀ L, Closed ops L → L.getD i false = false → L.getD z false = false) {oi : Oper} {v : Value} (hi : ops[i]? = some oi) (hsel : ∀ (j : Nat) (o : Oper) cs b, ops[j]? = some o → o.op ≠ .select cs b)
    (hndf : ∀ (j : Nat) (o : Oper) c, ops[j]? = some o → o.op ≠ .defer c) :
    ∀ (fuel : Nat) (listed : Array Bool) (a : Act) (w : World),
      (∀ j oj, ops[j]? = some oj → j ≠ i → listed.getD j true = false → (∀ e ∈ oj.after, Region.binds .any e = true → e.on ≠ i) → oi.apart ops oj = true) →
      Closed ops listed → i ∈ Region.ready .any ops listed → YieldsS ρ P ops S oi v a → S w →
      wpAnyZ z ρ P ops ds px Q S fuel (listed.setIfInBounds i true) (a.put oi.dst v) w → wpAnyZ z ρ P ops ds px Q S (fuel + 1) listed a w := by
  intro fuel
  induction fuel with
  | zero =>
    intro listed a w _ hcl hr hy hS H
    refine ⟨fun h => (by rw [h] at hr; cases hr), fun j hj => ?_⟩
    by_cases hji : j = i
    · subst hji; exact hy.op (fun c => hndf _ _ c hi) hi hS ⟨.inr hS, H⟩
    · have := ready_mono hj hji
      rw [H.1] at this
      cases this
  | succ fuel ih =>
    intro listed a w hfree hcl hr hy hS H
    refine ⟨fun h => (by rw [h] at hr; cases hr), fun j hj => ?_⟩
    by_cases hji : j = i
    · subst hji; exact hy.op (fun c => hndf _ _ c hi) hi hS ⟨.inr hS, H⟩
    · have hjr := mem_ready.1 hj
      obtain ⟨hjun, oj, hoj, hall⟩ := hjr
      have hnot : ∀ e ∈ oj.after, Region.binds .any e = true → e.on ≠ i := fun e he hb heq => by
        have h1 := hall e he hb
        have h0 := (mem_ready.1 hr).1
        rw [heq] at h1
        rcases Nat.lt_or_ge i listed.size with h' | h'
        · simp [h'] at h0 h1; rw [h0] at h1; cases h1
        · simp [Array.getElem?_eq_none h'] at h1
      have hap := hfree j oj hoj hji hjun hnot
      obtain ⟨h1, h2, h3⟩ := Oper.apart_spec hap
      have H2 := H.2 j (ready_mono hj hji)
      -- z is not listed yet
      have hiu : (listed.setIfInBounds j true).getD i false = false := by
        rw [getD_set_ne false hji]
        have h0 := (mem_ready.1 hr).1
        rcases Nat.lt_or_ge i listed.size with h' | h'
        · simp [h'] at h0 ⊢; exact h0
        · simp [Array.getElem?_eq_none h']
      have hzu := hz _ (hcl.list hj) hiu
      have hzi : i ≠ z := hzz
      have hzj : ((listed.setIfInBounds i true).setIfInBounds j true).getD z false = false := by
        rw [Array.setIfInBounds_comm _ _ (Ne.symm hji), getD_set_ne false hzi]; exact hzu
      -- what the rest asks of the frame
      have keep : ∀ (b : Act) (u : Value), YieldsS ρ P ops S oi v b → YieldsS ρ P ops S oi v (b.put oj.dst u) := by
        intro b u hyb
        rcases hyb with ⟨hw, hyb⟩ | ⟨hw, hv⟩
        · refine .inl ⟨by rw [wanted_put oi b oj.dst u h3]; exact hw, fun w' hw' => ?_⟩
          rw [execOp_put oi (fun cs b => hsel i oi cs b hi) b oj.dst u h3]
          have := hyb w' hw'
          revert this
          generalize (execOp b.eval oi).run P w' = r
          intro hr2
          refine uponIn_mono (a := b) (fun v' w2 hk => ⟨?_, hk.2⟩) (fun d w2 hk => ⟨?_, hk.2⟩) hr2
          · have e := hk.1
            rw [Act.put_comm b u v' (fun d hd => fun hx => h2 d hx hd), Act.put_comm b u v (fun d hd => fun hx => h2 d hx hd), e]
          · exfalso
            have e : (d :: b.defers).length = b.defers.length := by
              have e := congrArg (fun x : Act => x.defers.length) hk.1
              cases hdd : oi.dst <;> rw [hdd] at e <;> exact e
            simp at e
        · exact .inr ⟨by rw [wanted_put oi b oj.dst u h3]; exact hw, hv⟩
      have hfree' : ∀ k ok, ops[k]? = some ok → k ≠ i → (listed.setIfInBounds j true).getD k true = false →
          (∀ e ∈ ok.after, Region.binds .any e = true → e.on ≠ i) → oi.apart ops ok = true := fun k ok hk hki hun hno => by
        refine hfree k ok hk hki ?_ hno
        by_cases hjk : j = k
        · subst hjk; exact hjun
        · rw [getD_set_ne true hjk] at hun; exact hun
      have step : ∀ (b : Act) (w' : World), YieldsS ρ P ops S oi v b → (((listed.setIfInBounds i true).setIfInBounds j true).getD z false = true ∨ S w') ∧ wpAnyZ z ρ P ops ds px Q S fuel ((listed.setIfInBounds i true).setIfInBounds j true) (b.put oi.dst v) w' →
          ((listed.setIfInBounds j true).getD z false = true ∨ S w') ∧ wpAnyZ z ρ P ops ds px Q S (fuel + 1) (listed.setIfInBounds j true) b w' := fun b w' hyb hk => by
        have hS' : S w' := hk.1.resolve_left (by rw [hzj]; exact Bool.false_ne_true)
        exact ⟨.inr hS', ih _ b w' hfree' (hcl.list hj) (ready_mono hr (Ne.symm hji)) hyb hS' (by rw [Array.setIfInBounds_comm _ _ hji]; exact hk.2)⟩
      unfold wpOpIn at H2 ⊢
      rw [hoj] at H2 ⊢
      simp only at H2 ⊢
      rw [wanted_put oj a oi.dst v h1] at H2
      split
      · rename_i hw
        rw [if_pos hw] at H2
        refine ⟨fun _ _ => trivial, ?_⟩
        have H3 := H2.2
        rw [Oper.semAt_eq _ _ _ (fun c => hndf _ _ c hoj)] at H3 ⊢
        rw [execOp_put oj (fun cs b => hsel j oj cs b hoj) a oi.dst v h1] at H3
        have hnd2 : ∀ c, oj.op ≠ .defer c := fun c => hndf _ _ c hoj
        revert H3
        generalize hrr : (execOp a.eval oj).run P w = r
        intro H3
        have hpq : ∀ ch w'', pQ ds px (.panic ch) (a.put oi.dst v) w'' → pQ ds px (.panic ch) a w'' := fun ch w'' hq => by
          refine ⟨?_, hq.2⟩
          have := hq.1
          cases hdd : oi.dst <;> rw [hdd] at this <;> exact this
        cases r with
        | halt x w' => cases x <;> first | exact H3.elim | exact hpq _ _ H3
        | ok x w' =>
          cases x <;> try exact H3.elim
          case value u => exact step _ _ (keep a u hy) (by rw [← Act.put_comm a v u h2]; exact H3)
          case skip => exact step _ _ (keep a undef hy) (by rw [← Act.put_comm a v undef h2]; exact H3)
          case defer d =>
            refine step _ _ (keep _ undef ?_) ?_
            · rcases hy with ⟨hwi, hyi⟩ | ⟨hwi, hv⟩
              · refine .inl ⟨hwi, fun w2 hw2 => ?_⟩
                have := hyi w2 hw2
                refine uponIn_mono (a := a) (a' := { a with defers := d :: a.defers }) (fun u w3 hk => ⟨?_, hk.2⟩) (fun d' w3 hk => ⟨?_, hk.2⟩) this
                · have e := congrArg Act.tmps hk.1
                  have e2 := congrArg Act.defers hk.1
                  cases hdd : oi.dst <;> rw [hdd] at e <;> simp_all [Act.put]
                · exfalso
                  have e : (d' :: a.defers).length = a.defers.length := by
                    have e := congrArg (fun x : Act => x.defers.length) hk.1
                    cases hdd : oi.dst <;> rw [hdd] at e <;> exact e
                  simp at e
              · exact .inr ⟨hwi, hv⟩
            · rw [← Act.put_comm _ v undef h2, ← Act.put_defers]; exact H3
          case enter f args =>
            refine ⟨H3.1, H3.2.mono fun en w'' hr3 => ?_⟩
            cases en with
            | returned u => exact step _ _ (keep a u hy) (by rw [← Act.put_comm a v u h2]; exact hr3)
            | panicked c => exact hpq _ _ hr3
            | outgrown => obtain ⟨_, _, hx⟩ := hr3; exact hx.elim
          case row f args => exact ⟨H3.1, H3.2.mono fun u w'' hr3 => step _ _ (keep a u hy) (by rw [← Act.put_comm a v u h2]; exact hr3)⟩
          case round =>
            refine ⟨H3.1, H3.2.mono fun en w'' hr3 => ?_⟩
            cases en with
            | returned u => exact step _ _ (keep a u hy) (by rw [← Act.put_comm a v u h2]; exact hr3)
            | panicked c => exact hpq _ _ hr3
            | outgrown => obtain ⟨_, _, hx⟩ := hr3; exact hx.elim
      · rename_i hw
        rw [if_neg hw] at H2
        exact ⟨fun _ _ => trivial, step _ _ (keep a undef hy) (by rw [← Act.put_comm a v undef h2]; exact H2.2)⟩
end

/-- a drawn region's operations that are left -/
def GAz (z : Nat) (X : Cx) (ops : Array Oper) (S : World → Prop) (fuel : Nat) (listed : Array Bool) (k : List Kt) (e : Env) (w : World) : Prop :=
  ∀ t, Fits X.n e t → S w → Closed ops listed → wpAnyZ z X.ρ X.P ops X.ds X.px (fun a w => post X.ρ X.P X.fin k .normal a w) S fuel listed ⟨t, X.ds⟩ w
section
variable {X : Cx} {S : World → Prop} {fuel : Nat} {listed : Array Bool} {k : List Kt} {e : Env} {w : World} {ops : Array Oper} {z : Nat}
theorem GAz.last {o : Oper} (hr : Region.ready .any ops listed = [z]) (ho : ops[z]? = some o) (hzl : Nat.blt z listed.size = true) (hr2 : Region.ready .any ops (listed.setIfInBounds z true) = [])
    (h : StepP X ops o e w (fun e' w' => G X k e' w')) : GAz z X ops S (fuel + 1) listed k e w := by
  intro t hf _ _
  refine ⟨fun h0 => (by rw [hr] at h0; cases h0), fun j hj => ?_⟩
  rw [hr, List.mem_singleton] at hj
  subst hj
  refine step_op ho h hf fun e' w' t' hN hf' => ⟨.inl ?_, ?_⟩
  · have : j < listed.size := by simpa [Nat.blt_eq] using hzl
    simp [Array.getD_eq_getD_getElem?, this]
  · cases fuel with
    | zero => exact ⟨hr2, hN t' hf'⟩
    | succ f => exact ⟨fun _ => hN t' hf', fun i hi => by rw [hr2] at hi; cases hi⟩
theorem GAz.one {j : Nat} {o : Oper} (hr : Region.ready .any ops listed = [j]) (ho : ops[j]? = some o)
    (h : StepP X ops o e w (fun e' w' => S w' ∧ GAz z X ops S fuel (listed.setIfInBounds j true) k e' w')) : GAz z X ops S (fuel + 1) listed k e w := by
  intro t hf _ hcl
  refine ⟨fun h0 => (by rw [hr] at h0; cases h0), fun i hi => ?_⟩
  have hi' := hi
  rw [hr, List.mem_singleton] at hi
  subst hi
  exact step_op ho h hf fun e' w' t' hN hf' => ⟨.inr hN.1, hN.2 t' hf' hN.1 (hcl.list hi')⟩
/-- an operation that only reads is taken first -/
theorem GAz.take (i : Nat) (n : Nat) (hiz : Nat.beq i z = false) (hrch : reachB ops n z i = true) {o : Oper} {d : Nat} {c : Option Bool} {v : Value} (ho : ops[i]? = some o) (hp : plainOps ops = true) (hfr : Region.free .any ops listed i = true)
    (hr : (Region.ready .any ops listed).contains i = true) (hd : o.dst = some d) (hn : Nat.blt d X.n = true)
    (h : ∀ w', S w' → Step X ops o e w' (fun e' w'' => e' = (d, c, v) :: e ∧ w'' = w'))
    (next : GAz z X ops S fuel (listed.setIfInBounds i true) k ((d, c, v) :: e) w) : GAz z X ops S (fuel + 1) listed k e w := by
  intro t hf hS hcl
  have key : ∀ (u : Value) t', (Act.put ⟨t, X.ds⟩ o.dst u : Act) = ⟨t', X.ds⟩ → Fits X.n ((d, c, v) :: e) t' → u = gval c v ∧ Fits X.n ((d, c, v) :: e) (t.setIfInBounds d (gval c v)) := by
    intro u t' he hf'
    rw [hd] at he
    simp only [Act.put, Act.mk.injEq, and_true] at he
    subst he
    have hl : look ((d, c, v) :: e) d = some (c, v) := by simp [look]
    obtain ⟨hn', hg⟩ := hf'.get d c v hl
    have : u = gval c v := by rw [← hg]; simp [Array.getD_eq_getD_getElem?, hf.size, hn']
    subst this
    exact ⟨rfl, hf'⟩
  have hy : YieldsS X.ρ X.P ops S o (gval c v) ⟨t, X.ds⟩ := by
    by_cases hw : Region.wanted o (yielded ops t) = true
    · refine .inl ⟨hw, fun w' hS' => ?_⟩
      have := h w' hS' t (fun a' w'' => w'' = w' ∧ ∃ t', a' = ⟨t', X.ds⟩ ∧ Fits X.n ((d, c, v) :: e) t') noQ hf
        (fun e' w2 t' hN hf' => ⟨hN.2, t', rfl, hN.1 ▸ hf'⟩)
      rw [if_pos hw] at this
      have h2 := this.2
      rw [Oper.semAt_eq _ _ _ (fun c => plainOps_defer hp _ _ c ho)] at h2
      refine uponIn_mono (fun u w2 hk => ?_) (fun d' w2 hk => ?_) h2
      · obtain ⟨hw2, t', he, hf'⟩ := hk
        exact ⟨by rw [(key u t' he hf').1], hw2⟩
      · exfalso
        obtain ⟨_, t', he, _⟩ := hk
        have := congrArg (fun x : Act => x.defers.length) he
        rw [hd] at this
        simp [Act.put] at this
    · refine .inr ⟨by simpa using hw, ?_⟩
      have := h w hS t (fun a' w'' => w'' = w ∧ ∃ t', a' = ⟨t', X.ds⟩ ∧ Fits X.n ((d, c, v) :: e) t') noQ hf
        (fun e' w2 t' hN hf' => ⟨hN.2, t', rfl, hN.1 ▸ hf'⟩)
      rw [if_neg hw] at this
      obtain ⟨_, t', he, hf'⟩ := this
      exact (key undef t' he hf').1.symm
  have hfit : Fits X.n ((d, c, v) :: e) (t.setIfInBounds d (gval c v)) := hf.put (by simpa [Nat.blt_eq] using hn) c v
  refine wpAnyZ_first (fun e => by subst e; rw [Nat.beq_refl] at hiz; cases hiz) (fun L hL h0 => ?_) ho (fun j o cs b hj => Region.noSelect_spec (bL hp) j o cs b hj) (fun j o c hj => plainOps_defer hp j o c hj) fuel listed _ w
    (fun j oj => Region.free_spec ho hfr j oj) hcl (by simpa using hr) hy hS ?_
  · rcases hb : L.getD z false with _ | _
    · rfl
    · have := reach_listed hL n z hrch hb
      rw [h0] at this; cases this
  · have := next _ hfit hS (hcl.list (by simpa using hr))
    simpa [Act.put, hd] using this
end
def ordOKz (ops : Array Oper) (z : Nat) : List (Nat × Bool) → Array Bool → Bool
  | [], listed => (match Region.ready .any ops listed with | [j] => Nat.beq j z | _ => false) && (Nat.blt z listed.size && (Region.ready .any ops (listed.setIfInBounds z true)).isEmpty)
  | (i, true) :: l, listed => (Region.ready .any ops listed).contains i && (Region.free .any ops listed i && ((!Nat.beq i z && reachB ops ops.size z i) && ordOKz ops z l (listed.setIfInBounds i true)))
  | (i, false) :: l, listed => (match Region.ready .any ops listed with | [j] => Nat.beq j i | _ => false) && ordOKz ops z l (listed.setIfInBounds i true)
theorem GM.gaz {X : Cx} {ops : Array Oper} {S : World → Prop} {z : Nat} {oz : Oper} (hz : ops[z]? = some oz) (hp : plainOps ops = true) : ∀ (ord : List (Nat × Bool)) (l : List (Oper × Bool)) (listed : Array Bool) (fuel : Nat) (k : List Kt) (e : Env) (w : World),
    ordOps ops.toList ord = some l → ordOKz ops z ord listed = true → ord.length < fuel → GMN X ops S (fun e w => StepP X ops oz e w (fun e' w' => G X k e' w')) l e w → GAz z X ops S fuel listed k e w
  | [], l, listed, fuel, k, e, w, ho, hk, hf, h => by
    cases ho
    simp only [ordOKz, Bool.and_eq_true] at hk
    obtain ⟨h1, h2, h3⟩ := hk
    cases fuel with
    | zero => simp at hf
    | succ fuel =>
      have hrd : Region.ready .any ops listed = [z] := by
        split at h1
        · rename_i j hj; rw [hj, Nat.eq_of_beq_eq_true h1]
        · cases h1
      exact GAz.last hrd hz h2 (by simpa using h3) h
  | (i, b) :: ord, l, listed, fuel, k, e, w, ho, hk, hf, h => by
    simp only [ordOps] at ho
    split at ho
    · rename_i o hoi
      have hoi' : ops[i]? = some o := by simpa using hoi
      split at ho
      · rename_i r hr
        cases ho
        cases fuel with
        | zero => simp at hf
        | succ fuel =>
          cases b with
          | true =>
            simp only [ordOKz, Bool.and_eq_true] at hk
            obtain ⟨d, c, v, hd, hn, hst, hnext⟩ := h
            exact GAz.take i ops.size (by simpa using hk.2.2.1.1) hk.2.2.1.2 hoi' hp hk.2.1 hk.1 hd hn hst (GM.gaz hz hp ord r _ fuel k _ w hr hk.2.2.2 (by simpa using hf) hnext)
          | false =>
            simp only [ordOKz, Bool.and_eq_true] at hk
            obtain ⟨h1, h2⟩ := hk
            have hrd : Region.ready .any ops listed = [i] := by
              split at h1
              · rename_i j hj; rw [hj, Nat.eq_of_beq_eq_true h1]
              · cases h1
            refine GAz.one hrd hoi' ?_
            intro t K Q hft hK hP
            exact h t K Q hft (fun e' w' t' hN hf' => hK e' w' t' ⟨hN.1, GM.gaz hz hp ord r _ fuel k e' w' hr h2 (by simpa using hf) hN.2⟩ hf') hP
      · cases ho
    · cases ho
/-- a drawn region whose last operation may turn what was read -/
theorem G.regionZ {X : Cx} {k : List Kt} {e : Env} {w : World} (z : Nat) (ord : List (Nat × Bool)) (S : World → Prop) {id : Nat} {l : List Oper} {oz : Oper} {r : List (Oper × Bool)} (hp : plainOps l.toArray = true) (hk : ordOKz l.toArray z ord (Array.replicate l.length false) = true) (hlen : Nat.blt ord.length l.length = true)
    (hm : X.P.follows .mixedOrders = true) (hS : S w.drew) (hz : l[z]? = some oz) (hr : ordOps l ord = some r) (h : GMN X l.toArray S (fun e w => StepP X l.toArray oz e w (fun e' w' => G X k e' w')) r e w.drew) : G X (.code (.region id l.toArray true) :: k) e w := by
  intro t hf
  refine wpIn_region_any hm ?_
  have hcl : Closed l.toArray (Array.replicate l.length false) := by
    intro j o _ hj
    exfalso
    simp only [Array.getD_eq_getD_getElem?, Array.getElem?_replicate] at hj
    split at hj <;> cases hj
  have := GM.gaz (z := z) (by simpa using hz) hp ord r (Array.replicate l.length false) l.length k e _ (by simpa using hr) hk (by simpa [Nat.blt_eq] using hlen) h t hf hS hcl
  refine wpAnyZ_any (z := z) (S := S) (ds := X.ds) (px := X.px) (Q := fun a w => post X.ρ X.P X.fin k .normal a w) (fun _ _ h => h) (fun ch a w hq => ?_) _ _ _ _ ?_
  · obtain ⟨t', ds'⟩ := a
    obtain ⟨rfl, hq⟩ := hq
    exact post_panic (hq t')
  simpa using this
/-- the last operation: a field of a box is stored into -/
theorem zSf {X : Cx} {ops : Array Oper} {k : List Kt} {e : Env} {w : World} {ty : TypeId} {pos : String} {af : Array Edge} {g : Option (Nat × Bool)} (T : Tb X.P) {x y : Operand} {t : TypeId} {v z : Value} {vs us : List Value} {s by_ b off : Nat}
    (h : ∀ w', Bx w' b (us.take off ++ vs ++ us.drop (off + s)) → Wr b w w' → G X k e w') (hg : guardE ops e ⟨none, .store t x y, ty, pos, af, g⟩ = some none := by exact rfl)
    (hx : Op1 e none x (padd (ptr b) off) := by exact Op1.of rfl (by first | exact fun _ => rfl | exact fun h => h | exact fun h => bL h | exact fun h => bL (bL h) | exact fun h => bL (bL (bL h)))) (hy : Op1 e none y v := by exact Op1.of rfl (by first | exact fun _ => rfl | exact fun h => h | exact fun h => bL h | exact fun h => bL (bL h) | exact fun h => bL (bL (bL h)))) (hi : T.inf t = some (z, s, by_) := by exact rfl) (hv : v.cells = ⟨vs⟩ := by first | exact Sli.cells (by assumption) | exact Owns.cells (by assumption) | exact rfl) (hs : vs.length = s := by exact rfl) (h1 : ∀ v ∈ vs, v.oneCell' = true := by first | exact Sli.one (by assumption) | exact Sli.one (Owns.sli (by assumption)) | simp [Value.oneCell', S, U])
    (hb : Bx w b us := by assumption) (hl : off + s ≤ us.length := by exact of_decide_eq_true rfl) :
    StepP X ops ⟨none, .store t x y, ty, pos, af, g⟩ e w (fun e' w' => G X k e' w') := (Step.store T hg hx hy hi hv hs h1 hb hl h).p
end Go.Vg
end
section
open Go Go.Vg Go.RowKit Go.Proofs Go.Proofs.YtcngoccnfmhhnaaGreatDoor
namespace Go.Proofs.YtcngoccnfmhhnaaGreatDoor
open Go.Nm

theorem digit_ok (c : UInt8) (w : World) : Ret Tryz.prog 187 ⟨[U c]⟩ w fun r w' => r = .bool (isD c) ∧ Ext w w' := by
  refine ret_of_G Tryz.func187 rfl Tryz.ntmps187 rfl ?_
  simp only [argEnv]
  refine rn ?_
  refine G.ret1 rfl rfl rfl rfl ?_
  refine ⟨?_, Ext.refl _⟩
  unfold isD
  congr 2 <;> exact decide_eq_decide.2 (by omega)
theorem run_ok (s : List UInt8) (w : World) (hs : s.length ≤ 9223372036854775807) : Ret Tryz.prog 165 ⟨[S s]⟩ w fun r w' => r = .int .i64 (runD s) ∧ Ext w w' := by
  refine ret_of_G Tryz.func165 rfl Tryz.ntmps165 rfl ?_
  simp only [argEnv]
  refine rn ?_
  refine (G.loop (fun i : Nat => [(0, none, S s), (3, none, .int .i64 i)]) (fun i W => Ext w W ∧ i ≤ s.length ∧ ∀ j, j < i → isD (s.getD j 0) = true) (fun i => s.length - i) 0 (by repeat (first | exact Sub.nil _ | refine Sub.cons rfl ?_)) ⟨Ext.refl _, Nat.zero_le _, fun j hj => by omega⟩ ?_)
  rintro i W ⟨hx, hi, hd⟩
  refine rn ?_
  by_cases hlt : i < s.length
  · rw [decide_eq_true (p := ((i : Nat) : Int) < ((s.length : Nat) : Int)) (by omega)]
    refine rn ?_
    refine sBs tb i ?_ (hj := fun _ => ⟨rfl, hlt⟩)
    refine GL.cons (Step.callX rfl rfl (by repeat (first | exact OpL.nil | refine OpL.cons (Op1.of rfl (by first | exact fun _ => rfl | exact fun h => h | exact fun h => bL h | exact fun h => bL (bL h) | exact fun h => bL (bL (bL h)))) ?_)) c187 rfl (fun hc => digit_ok (s.getD i 0) W) ?_)
    intro W2 hx2
    cases hdi : isD (s.getD i 0)
    · refine rn ?_
      refine G.ret1 rfl rfl rfl rfl ?_
      exact ⟨by rw [runD_eq hi hd (.inr hdi)], hx.trans hx2⟩
    · refine rn ?_
      refine sAd tb (r := ((i + 1 : Nat) : Int)) ?_
      refine rn ?_
      refine G.lp (x := i) (i + 1) (by repeat (first | exact Sub.nil _ | refine Sub.cons rfl ?_)) ⟨hx.trans hx2, by omega, fun j hj => ?_⟩ (by omega)
      by_cases hji : j = i
      · rw [hji]; exact hdi
      · exact hd j (by omega)
  · rw [decide_eq_false (p := ((i : Nat) : Int) < ((s.length : Nat) : Int)) (by omega)]
    have hie : i = s.length := by omega
    refine rn ?_
    refine GL.cons (Step.off (v := U 0) rfl (of_decide_eq_true rfl) rfl ?_)
    refine GL.cons (Step.off (v := .bool false) rfl (of_decide_eq_true rfl) rfl ?_)
    refine rn ?_
    refine G.ret1 rfl rfl rfl rfl ?_
    exact ⟨by rw [runD_eq hi hd (.inl hie)], hx⟩
theorem trimLB_ok (s : List UInt8) (w : World) : Ret Tryz.prog 53 ⟨[S s, U 48]⟩ w fun r w' => r = S (trimZ s) ∧ w' = w := by
  refine ret_of_G Tryz.func53 rfl Tryz.ntmps53 rfl ?_
  simp only [argEnv]
  refine rn ?_
  refine (G.loop (fun l : List UInt8 => [(0, none, S l), (1, none, U 48)]) (fun l W => W = w ∧ trimZ l = trimZ s ∧ l.length ≤ s.length) (fun l => l.length) s (by repeat (first | exact Sub.nil _ | refine Sub.cons rfl ?_)) ⟨rfl, rfl, Nat.le_refl _⟩ ?_)
  rintro l W ⟨rfl, hl, hll⟩
  rcases l with _ | ⟨c, l⟩
  · refine rn ?_
    refine GL.cons (Step.off (v := U 0) rfl (of_decide_eq_true rfl) rfl ?_)
    refine rn ?_
    refine G.ret1 rfl rfl rfl rfl ?_
    exact ⟨by rw [← hl]; rfl, rfl⟩
  · obtain ⟨n, hn⟩ : ∃ n, n = (c :: l).length := ⟨_, rfl⟩
    have hn1 : n = l.length + 1 := by rw [hn]; rfl
    refine rn ?_
    rw [decide_eq_true (p := (0 : Int) < (((c :: l).length : Nat) : Int)) (by rw [← hn]; omega)]
    refine rn ?_
    refine sBs tb 0 ?_ (hj := fun _ => ⟨rfl, by rw [← hn]; omega⟩)
    rw [List.getD_cons_zero]
    refine rn ?_
    rw [trimZ] at hl
    by_cases hc : c = 48
    · rw [if_pos hc] at hl
      rw [decide_eq_true (p := ((c.toNat : Nat) : Int) = ((48 : UInt8).toNat : Int)) (by rw [hc])]
      refine rn ?_
      refine GL.cons (Step.sliceSl tb 1 rfl (Op1.of rfl (by first | exact fun _ => rfl | exact fun h => h | exact fun h => bL h | exact fun h => bL (bL h) | exact fun h => bL (bL (bL h)))) (Op1.of rfl (by first | exact fun _ => rfl | exact fun h => h | exact fun h => bL h | exact fun h => bL (bL h) | exact fun h => bL (bL (bL h)))) rfl (fun _ => ⟨rfl, by rw [← hn]; omega⟩) rfl ?_)
      refine rn ?_
      exact G.lp (x := c :: l) l (by repeat (first | exact Sub.nil _ | refine Sub.cons rfl ?_)) ⟨rfl, hl, by rw [← hn] at hll; omega⟩ (by simp)
    · rw [if_neg hc] at hl
      rw [decide_eq_false (p := ((c.toNat : Nat) : Int) = ((48 : UInt8).toNat : Int)) (fun h => hc (UInt8.toNat_inj.1 (by omega)))]
      refine rn ?_
      refine G.ret1 rfl rfl rfl rfl ?_
      exact ⟨by rw [← hl], rfl⟩
theorem trimL_ok (s : List UInt8) (w : World) (hs : s.length ≤ 1000000) : Ret Tryz.prog 26 ⟨[S s, S [48]]⟩ w fun r w' => r = S (trimZ s) ∧ w' = w := by
  refine ret_of_G Tryz.func26 rfl Tryz.ntmps26 rfl ?_
  simp only [argEnv]
  refine rn ?_
  by_cases h0 : s = []
  · subst h0
    refine rn ?_
    refine G.ret1 rfl rfl rfl rfl ?_
    exact ⟨rfl, rfl⟩
  · rw [decide_eq_false h0]
    refine rn ?_
    refine sBs tb 0 ?_ (hj := fun _ => ⟨rfl, by decide⟩)
    (first | refine gl tb ?_ | refine gg tb ?_ | refine ll tb ?_ | refine lg tb ?_)
    rw [show decide (((([48] : List UInt8).getD 0 0).toNat : Int) < 128) = true by decide]
    refine rn ?_
    refine sBs tb 0 ?_ (hj := fun _ => ⟨rfl, by decide⟩)
    refine sCall c53 (trimLB_ok s _) ?_
    rintro _ _ ⟨rfl, rfl⟩
    refine rn ?_
    refine G.ret1 rfl rfl rfl rfl ?_
    exact ⟨rfl, rfl⟩
theorem take1 (s : List UInt8) (b : UInt8) : decide (s.take 1 = [b]) = decide (s.head? = some b) := by
  cases s <;> simp
theorem hasP_ok (s : List UInt8) (b : UInt8) (w : World) (hs : s.length ≤ 1000000) : Ret Tryz.prog 177 ⟨[S s, S [b]]⟩ w fun r w' => r = .bool (decide (s.head? = some b)) ∧ w' = w := by
  have h1 : Ret Tryz.prog 193 ⟨[S s, S [b]]⟩ w fun r w' => r = .bool (decide (s.head? = some b)) ∧ w' = w := by
    (refine ret_of_G Tryz.func193 rfl Tryz.ntmps193 rfl ?_; simp only [argEnv])
    refine rn ?_
    by_cases h0 : s = []
    · subst h0
      refine rn ?_
      refine GL.cons (Step.off (v := S []) rfl (of_decide_eq_true rfl) rfl ?_)
      refine rn ?_
      refine G.ret1 rfl rfl rfl rfl ?_
      exact ⟨rfl, rfl⟩
    · have hpos := List.length_pos_iff.2 h0
      rw [decide_eq_true (p := (([b] : List UInt8).length : Int) ≤ ((s.length : Nat) : Int)) (by simp only [List.length_cons, List.length_nil]; omega)]
      refine rn ?_
      refine GL.cons (Step.sliceSh tb 1 rfl (Op1.of rfl (by first | exact fun _ => rfl | exact fun h => h | exact fun h => bL h | exact fun h => bL (bL h) | exact fun h => bL (bL (bL h)))) (Op1.of rfl (by first | exact fun _ => rfl | exact fun h => h | exact fun h => bL h | exact fun h => bL (bL h) | exact fun h => bL (bL (bL h)))) rfl (fun _ => ⟨rfl, by omega⟩) rfl ?_)
      refine rn ?_
      rw [take1]
      refine G.ret1 rfl rfl rfl rfl ?_
      exact ⟨rfl, rfl⟩
  refine ret_of_G Tryz.func177 rfl Tryz.ntmps177 rfl ?_
  simp only [argEnv]
  refine rn ?_
  refine sCall c193 (h1) ?_
  rintro _ _ ⟨rfl, rfl⟩
  refine rn ?_
  refine G.ret1 rfl rfl rfl rfl ?_
  exact ⟨rfl, rfl⟩
end Go.Proofs.YtcngoccnfmhhnaaGreatDoor
end
section
open Go Go.Vg Go.RowKit Go.Proofs Go.Proofs.YtcngoccnfmhhnaaGreatDoor
namespace Go.Proofs.YtcngoccnfmhhnaaGreatDoor
open Go.Nm

theorem lowB_nat (c : UInt8) : ((lowB c).toNat : Int) = if 65 ≤ c.toNat ∧ c.toNat ≤ 90 then (c.toNat : Int) + 32 else c.toNat := by
  unfold lowB
  split
  · rename_i h
    rw [UInt8.toNat_add]
    have : (32 : UInt8).toNat = 32 := rfl
    rw [this]
    omega
  · rfl
theorem set_mid {α : Type} (A D : List α) (x y : α) {i : Nat} (hA : A.length = i) : (A ++ x :: D).set i y = (A ++ [y]) ++ D := by
  subst hA
  rw [List.set_append_right _ _ (Nat.le_refl _), Nat.sub_self, List.set_cons_zero, List.append_assoc]; rfl
set_option maxHeartbeats 1000000 in
theorem small_ok (s : List UInt8) (w : World) (hs : s.length ≤ 1000000) : Ret Tryz.prog 161 ⟨[S s]⟩ w fun r w' => r = S (s.map lowB) ∧ Ext w w' := by
  refine ret_of_G Tryz.func161 rfl Tryz.ntmps161 rfl ?_
  simp only [argEnv]
  refine rn ?_
  refine GL.cons (Step.strBytesF tb rfl (Op1.of rfl (fun _ => rfl)) rfl rfl rfl rfl ?_)
  intro v W1 hf1 hx1
  have hby1 := hf1.sli (by omega)
  have hsl1 : Sli W1 v 1 (bysC s) := hby1
  refine rn ?_
  rw [bysC_len]
  refine (G.loop (fun i : Nat => [(3, none, v), (8, none, v), (9, none, .int .i64 s.length), (10, none, .int .i64 i)]) (fun i W => Ext w W ∧ Frz W w.heap.size v 5 ((s.take i).map lowB ++ s.drop i) ∧ i ≤ s.length) (fun i => s.length - i) 0 (by repeat (first | exact Sub.nil _ | refine Sub.cons rfl ?_)) ⟨hx1, by simpa using hf1, Nat.zero_le _⟩ ?_)
  clear hf1 hx1 hby1 hsl1
  rintro i W ⟨hx, hf, hi⟩
  have hlen : ((s.take i).map lowB ++ s.drop i).length = s.length := by rw [List.length_append, List.length_map, List.length_take, List.length_drop]; omega
  have hby := hf.sli (by rw [hlen]; omega)
  have hsl : Sli W v 1 (bysC ((s.take i).map lowB ++ s.drop i)) := hby
  refine rn ?_
  first | refine G.condD rfl (fun hc => ?_) (fun hc => ?_) | refine G.condN rfl (fun hc => ?_) (fun hc => ?_) | refine G.cond rfl (fun hc => ?_) (fun hc => ?_)
  · have hlt : i < s.length := by omega
    have hdr : s.drop i = s[i] :: s.drop (i + 1) := List.drop_eq_getElem_cons hlt
    have htk : s.take (i + 1) = s.take i ++ [s[i]] := List.take_succ_eq_append_getElem hlt
    have htl : ((s.take i).map lowB).length = i := by rw [List.length_map, List.length_take]; omega
    generalize s[i] = c at hdr htk
    rw [hdr] at hf hsl hlen
    have hget : (bysC ((s.take i).map lowB ++ c :: s.drop (i + 1)))[i]? = some [U c] := by
      unfold bysC
      rw [List.getElem?_map, List.getElem?_append_right (by omega), htl, Nat.sub_self]; rfl
    have hlow := lowB_nat c
    refine rn ?_
    refine sIa tb i ?_ (hj := fun _ => ⟨rfl, by rw [bysC_len, hlen]; exact hlt⟩)
    refine rn ?_
    have hce : (decide ((65 : Int) ≤ (c.toNat : Int)) && decide ((c.toNat : Int) ≤ 90)) = decide (65 ≤ c.toNat ∧ c.toNat ≤ 90) := by
      rw [Bool.eq_iff_iff]
      simp only [Bool.and_eq_true, decide_eq_true_eq]
      omega
    rw [hce]
    by_cases hup : 65 ≤ c.toNat ∧ c.toNat ≤ 90
    · rw [decide_eq_true hup]
      rw [if_pos hup] at hlow
      refine rn ?_
      refine GL.cons (Step.arith (k := .u8) (a := (c.toNat : Int)) (b := 97) (r := (c.toNat : Int) + 97) rfl (Op1.of rfl (by first | exact fun _ => rfl | exact fun h => h | exact fun h => bL h | exact fun h => bL (bL h) | exact fun h => bL (bL (bL h)))) (Op1.of rfl (by first | exact fun _ => rfl | exact fun h => h | exact fun h => bL h | exact fun h => bL (bL h) | exact fun h => bL (bL (bL h)))) ((Go.Vg.wrap_u8 _).trans (by omega)) rfl ?_)
      refine GL.cons (Step.arith (k := .u8) (a := (c.toNat : Int) + 97) (b := 65) (r := ((lowB c).toNat : Int)) rfl (Op1.of rfl (by first | exact fun _ => rfl | exact fun h => h | exact fun h => bL h | exact fun h => bL (bL h) | exact fun h => bL (bL (bL h)))) (Op1.of rfl (by first | exact fun _ => rfl | exact fun h => h | exact fun h => bL h | exact fun h => bL (bL h) | exact fun h => bL (bL (bL h)))) ((Go.Vg.wrap_u8 _).trans (by omega)) rfl ?_)
      refine sIa tb i ?_ (hj := fun _ => ⟨rfl, by rw [bysC_len, hlen]; exact hlt⟩)
      refine GL.cons (Step.storeF tb (u := lowB c) rfl (Op1.of rfl (fun _ => rfl)) (Op1.of rfl (fun _ => rfl)) rfl hf (by rw [hlen]; exact hlt) ?_)
      intro W2 hf2 hb2
      refine rn ?_
      refine sAd tb (r := ((i + 1 : Nat) : Int)) ?_
      refine rn ?_
      refine G.lp (x := i) (i + 1) (by repeat (first | exact Sub.nil _ | refine Sub.cons rfl ?_)) ⟨Below.trans hx hb2, ?_, by omega⟩ (by omega)
      rw [set_mid _ _ _ _ htl] at hf2
      rw [htk, List.map_append]
      exact hf2
    · rw [decide_eq_false hup]
      have hlc : lowB c = c := by unfold lowB; rw [if_neg hup]
      refine rn ?_
      refine sAd tb (r := ((i + 1 : Nat) : Int)) ?_
      refine rn ?_
      refine G.lp (x := i) (i + 1) (by repeat (first | exact Sub.nil _ | refine Sub.cons rfl ?_)) ⟨hx, ?_, by omega⟩ (by omega)
      rw [htk, List.map_append, List.map_cons, List.map_nil, hlc, List.append_assoc]
      exact hf
  · have hie : i = s.length := by omega
    subst hie
    rw [List.take_length, List.drop_length, List.append_nil] at hf hby
    refine rn ?_
    refine sByS tb hby ?_
    refine rn ?_
    refine G.ret1 rfl rfl rfl rfl ?_
    exact ⟨rfl, hx⟩
/-- what read tells -/
def ReadR (s : List UInt8) (r : Value) : Prop := ∃ (ds : List UInt8) (x : Int) (ok : Bool), r = .tuple ⟨[.agg ⟨[S ds, .int .i64 x]⟩, .bool ok]⟩ ∧ ((ok = true ∧ readP s = some (ds, x)) ∨ (ok = false ∧ readP s = none))
set_option maxHeartbeats 4000000 in
theorem read_ok (s : List UInt8) (w : World) (hs : s.length ≤ 400) : Ret Tryz.prog 162 ⟨[S s]⟩ w fun r w' => ReadR s r ∧ Ext w w' := by
  have hrn := runD_le s
  refine ret_of_G Tryz.func162 rfl Tryz.ntmps162 rfl ?_
  simp only [argEnv]
  refine rn ?_
  refine sAl tb (us := [S [], .int .i64 0]) (fun W1 hb2 hs1 hx1 => ?_)
  refine rn ?_
  refine sCall c165 (run_ok s W1 (by omega)) ?_
  rintro _ W2 ⟨rfl, hx2⟩
  have hb2 := hb2.to hx2
  have hx02 := hx1.trans hx2
  refine rn ?_
  refine GL.cons (Step.sliceSh tb (runD s) rfl (Op1.of rfl (by first | exact fun _ => rfl | exact fun h => h | exact fun h => bL h | exact fun h => bL (bL h) | exact fun h => bL (bL (bL h)))) (Op1.of rfl (by first | exact fun _ => rfl | exact fun h => h | exact fun h => bL h | exact fun h => bL (bL h) | exact fun h => bL (bL (bL h)))) rfl (fun _ => ⟨rfl, hrn⟩) rfl ?_)
  refine rn ?_
  refine sAl tb (us := [S [], .int .i64 0]) (fun W3 hb5 hs3 hx3 => ?_)
  refine rn ?_
  refine sSt tb (vs := [S (s.take (runD s)), .int .i64 0]) (fun W4 hb5 hw4 => ?_)
  have hx4 : Ext W2 W4 := Below.wr hx3 hw4 (Nat.le_refl _)
  have hx04 := hx02.trans hx4
  have hb2 := hb2.to hx4
  obtain ⟨b5, hb5e⟩ : ∃ b, b = W2.heap.size := ⟨_, rfl⟩
  have hlt2 : w.heap.size < b5 := by have := hx2.size; omega
  rw [← hb5e] at hb5 ⊢
  clear hb5e hx4 hw4 hs3 hx3 hx02 hx2 hx1 hs1
  refine rn ?_
  refine GL.cons (Step.sliceSl tb (runD s) rfl (Op1.of rfl (by first | exact fun _ => rfl | exact fun h => h | exact fun h => bL h | exact fun h => bL (bL h) | exact fun h => bL (bL (bL h)))) (Op1.of rfl (by first | exact fun _ => rfl | exact fun h => h | exact fun h => bL h | exact fun h => bL (bL h) | exact fun h => bL (bL (bL h)))) rfl (fun _ => ⟨rfl, hrn⟩) rfl ?_)
  refine rn ?_
  refine sCall c177 (hasP_ok (s.drop (runD s)) 46 _ (by rw [List.length_drop]; omega)) ?_
  rintro _ W5 ⟨rfl, hW5⟩
  subst hW5
  refine rn ?_
  have hsl := split_len s
  refine G.join (fun _ : Unit => [(0, none, S (splitP s).2.2), (2, none, ptr w.heap.size), (5, none, ptr b5)]) (fun _ W' => Ext w W' ∧ Bx W' w.heap.size [S [], .int .i64 0] ∧ Bx W' b5 [S (splitP s).1, .int .i64 (-((splitP s).2.1 : Nat))]) ?_ ?_
  rotate_left
  · unfold splitP
    by_cases hdot : (s.drop (runD s)).head? = some 46
    · rw [decide_eq_true hdot, if_pos hdot]
      have hpos : 0 < (s.drop (runD s)).length := by
        apply List.length_pos_iff.2
        intro h; rw [h] at hdot; simp at hdot
      rw [List.length_drop] at hpos
      have hr2 := runD_le ((s.drop (runD s)).drop 1)
      obtain ⟨u, hu⟩ : ∃ u, u = (s.drop (runD s)).drop 1 := ⟨_, rfl⟩
      have hul : u.length = s.length - runD s - 1 := by rw [hu, List.length_drop, List.length_drop]
      rw [← hu] at hr2 ⊢
      simp only
      refine rn ?_
      refine GL.cons (Step.sliceSl tb 1 rfl (Op1.of rfl (by first | exact fun _ => rfl | exact fun h => h | exact fun h => bL h | exact fun h => bL (bL h) | exact fun h => bL (bL (bL h)))) (Op1.of rfl (by first | exact fun _ => rfl | exact fun h => h | exact fun h => bL h | exact fun h => bL (bL h) | exact fun h => bL (bL (bL h)))) rfl (fun _ => ⟨rfl, by rw [List.length_drop]; omega⟩) rfl ?_)
      rw [← hu]
      refine rn ?_
      refine sCall c165 (run_ok u _ (by omega)) ?_
      rintro _ W6 ⟨rfl, hx6⟩
      have hb5 := hb5.to hx6
      have hb2 := hb2.to hx6
      have hx06 := hx04.trans hx6
      refine rn ?_
      refine G.regionZ 8 [(0, true), (1, true), (2, true), (3, true), (4, true), (5, true), (6, true), (7, true)] (fun w' => Bx w' b5 [S (s.take (runD s)), .int .i64 0]) (by kernel_rfl) (by kernel_rfl) rfl mixed (hb5.to (Ext.drew W6)) rfl rfl ?_
      refine rd ?_
      refine dLd tb (u := S (s.take (runD s))) ?_ (hc := fun w' hS _ => Bx.c0 hS (by exact rfl))
      refine rd ?_
      refine dAd tb (r := ((1 + runD u : Nat) : Int)) ?_ (hp := (wrap_i64 (n := 1 + ((runD u : Nat) : Int)) (by omega) (by omega)).trans (by omega))
      refine GM.read (fun w' hS => Step.sliceS tb 1 (1 + runD u) rfl (Op1.of rfl (by first | exact fun _ => rfl | exact fun h => h | exact fun h => bL h | exact fun h => bL (bL h) | exact fun h => bL (bL (bL h)))) (Op1.of rfl (by first | exact fun _ => rfl | exact fun h => h | exact fun h => bL h | exact fun h => bL (bL h) | exact fun h => bL (bL (bL h)))) (Op1.of rfl (by first | exact fun _ => rfl | exact fun h => h | exact fun h => bL h | exact fun h => bL (bL h) | exact fun h => bL (bL (bL h)))) rfl (fun _ => ⟨rfl, rfl, by omega, by rw [List.length_drop]; omega⟩) rfl ⟨rfl, rfl⟩) rfl rfl ?_
      rw [← hu, show 1 + runD u - 1 = runD u by omega]
      refine dCat tb ?_ (hk := fun _ => by rw [List.length_take, List.length_take]; omega)
      refine rd ?_
      refine GM.nil ?_
      have hb5' := hb5.to (Ext.drew W6)
      refine zSf tb (fun W7 hb7 hw7 => ?_)
      have hx7 : Ext w W7 := Below.wr (hx06.trans (Ext.drew W6)) hw7 (by omega)
      have hb2 := (hb2.to (Ext.drew W6)).wr hw7 (by omega)
      refine rn ?_
      refine sNeg ?_ (hr := wrap_i64 (by omega) (by omega))
      refine rn ?_
      refine sSf tb (fun W8 hb8 hw8 => ?_)
      have hx8 : Ext w W8 := Below.wr hx7 hw8 (by omega)
      have hb2 := hb2.wr hw8 (by omega)
      refine rn ?_
      refine sAd tb (r := ((1 + runD u : Nat) : Int)) ?_ (hp := (wrap_i64 (n := 1 + ((runD u : Nat) : Int)) (by omega) (by omega)).trans (by omega))
      refine GL.cons (Step.sliceSl tb (1 + runD u) rfl (Op1.of rfl (by first | exact fun _ => rfl | exact fun h => h | exact fun h => bL h | exact fun h => bL (bL h) | exact fun h => bL (bL (bL h)))) (Op1.of rfl (by first | exact fun _ => rfl | exact fun h => h | exact fun h => bL h | exact fun h => bL (bL h) | exact fun h => bL (bL (bL h)))) rfl (fun _ => ⟨rfl, by rw [List.length_drop]; omega⟩) rfl ?_)
      refine rn ?_
      have hb8 : Bx W8 b5 [S (s.take (runD s) ++ u.take (runD u)), .int .i64 (0 - ((runD u : Nat) : Int))] := hb8
      rw [Int.zero_sub] at hb8
      rw [← List.drop_drop, ← hu]
      exact G.met () (by repeat (first | exact Sub.nil _ | refine Sub.cons rfl ?_)) ⟨hx8, hb2, hb8⟩
    · rw [decide_eq_false hdot, if_neg hdot]
      refine rn ?_
      exact G.met () (by repeat (first | exact Sub.nil _ | refine Sub.cons rfl ?_)) ⟨hx04, hb2, hb5⟩
  obtain ⟨dg, kk, rest, hsp⟩ : ∃ dg kk rest, splitP s = (dg, kk, rest) := ⟨_, _, _, rfl⟩
  have hkk : kk ≤ s.length := by rw [hsp] at hsl; simp only at hsl; omega
  have hdl : dg.length ≤ s.length := by rw [hsp] at hsl; simp only at hsl; omega
  have hrl : rest.length ≤ s.length := by rw [hsp] at hsl; simp only at hsl; omega
  clear hb2 hb5 hx04 hsl hrn
  rintro _ W9 ⟨hx9, hb2, hb5⟩
  rw [hsp] at hb5 ⊢
  simp only at hb5 ⊢
  refine rn ?_
  have hrp : readP s = if dg = [] then none else if rest = [] then some (trimZ dg, -(kk : Int)) else match expP rest with
    | none => none
    | some (ng, l) => some (trimZ dg, -(kk : Int) + (if ng then -1 else 1) * ((min (numL l 0) 100000 : Nat) : Int)) := by
    unfold readP; rw [hsp]; rfl
  by_cases hd0 : dg = []
  · rw [if_pos hd0] at hrp
    subst hd0
    refine rn ?_
    refine sSt tb (vs := [S [], .int .i64 (-(kk : Int))]) (fun WR hbR hwR => ?_)
    refine rn ?_
    exact G.retAT tb rfl rfl hbR.cells ⟨⟨_, _, false, rfl, .inr ⟨rfl, hrp⟩⟩, Below.wr hx9 hwR (Nat.le_refl _)⟩ rfl rfl rfl rfl rfl rfl rfl
  rw [if_neg hd0] at hrp
  rw [decide_eq_false hd0]
  refine rn ?_
  refine sCall c26 (trimL_ok dg W9 (by omega)) ?_
  rintro _ _ ⟨rfl, rfl⟩
  refine rn ?_
  refine sSf tb (fun W10 hb10 hw10 => ?_)
  have hx10 : Ext w W10 := Below.wr hx9 hw10 (by omega)
  have hb2 := hb2.wr hw10 (by omega)
  have hb10 : Bx W10 b5 [S (trimZ dg), .int .i64 (-(kk : Int))] := hb10
  clear hb5 hw10 hx9
  refine rn ?_
  rcases rest with _ | ⟨c, r⟩
  · rw [if_pos rfl] at hrp
    refine rn ?_
    refine sSt tb (vs := [S (trimZ dg), .int .i64 (-(kk : Int))]) (fun WR hbR hwR => ?_)
    refine rn ?_
    exact G.retAT tb rfl rfl hbR.cells ⟨⟨_, _, true, rfl, .inl ⟨rfl, hrp⟩⟩, Below.wr hx10 hwR (Nat.le_refl _)⟩ rfl rfl rfl rfl rfl rfl rfl
  rw [if_neg (by simp)] at hrp
  obtain ⟨n, hn⟩ : ∃ n, n = (c :: r).length := ⟨_, rfl⟩
  have hn1 : n = r.length + 1 := by rw [hn]; rfl
  rw [decide_eq_false (p := (c :: r) = []) (by simp)]
  refine rn ?_
  refine sBs tb 0 ?_ (hj := fun _ => ⟨rfl, by rw [← hn]; omega⟩)
  rw [List.getD_cons_zero]
  refine rn ?_
  refine sBs tb 0 ?_ (hj := fun _ => ⟨rfl, by rw [← hn]; omega⟩)
  rw [List.getD_cons_zero]
  refine rn ?_
  have hbe : (!decide (((c.toNat : Nat) : Int) = 101) && !decide (((c.toNat : Nat) : Int) = 69)) = decide (¬ (c.toNat = 101 ∨ c.toNat = 69)) := by
    rw [Bool.eq_iff_iff]
    simp only [Bool.and_eq_true, Bool.not_eq_true', decide_eq_false_iff_not, decide_eq_true_eq]
    omega
  rw [hbe]
  by_cases hce : c.toNat = 101 ∨ c.toNat = 69
  rotate_left
  · have he : expP (c :: r) = none := by
      unfold expP
      rw [if_neg]
      rintro (h | h) <;> (injection h with h; subst h; exact hce (by decide))
    rw [he] at hrp
    rw [decide_eq_true hce]
    refine rn ?_
    refine sSt tb (vs := [S (trimZ dg), .int .i64 (-(kk : Int))]) (fun WR hbR hwR => ?_)
    refine rn ?_
    exact G.retAT tb rfl rfl hbR.cells ⟨⟨_, _, false, rfl, .inr ⟨rfl, hrp⟩⟩, Below.wr hx10 hwR (Nat.le_refl _)⟩ rfl rfl rfl rfl rfl rfl rfl
  have he : expP (c :: r) = if unsign r = [] ∨ runD (unsign r) ≠ (unsign r).length then none else some (minus r, unsign r) := by
    unfold expP
    rw [if_pos (hce.imp (fun h => by rw [UInt8.toNat_inj (b := 101) |>.1 h]; rfl) (fun h => by rw [UInt8.toNat_inj (b := 69) |>.1 h]; rfl))]
    rfl
  rw [he] at hrp
  clear he
  rw [decide_eq_false (p := ¬ (c.toNat = 101 ∨ c.toNat = 69)) (fun h => h hce)]
  refine rn ?_
  refine GL.cons (Step.sliceSl tb 1 rfl (Op1.of rfl (by first | exact fun _ => rfl | exact fun h => h | exact fun h => bL h | exact fun h => bL (bL h) | exact fun h => bL (bL (bL h)))) (Op1.of rfl (by first | exact fun _ => rfl | exact fun h => h | exact fun h => bL h | exact fun h => bL (bL h) | exact fun h => bL (bL (bL h)))) rfl (fun _ => ⟨rfl, by rw [← hn]; omega⟩) rfl ?_)
  rw [show (c :: r).drop 1 = r from rfl]
  have hr4 : r.length < 400 := by omega
  clear hbe hn1 hn hd0 hsp
  rcases r with _ | ⟨d, r⟩
  · rw [if_pos (.inl rfl)] at hrp
    refine rn ?_
    refine GL.cons (Step.off (v := U 0) rfl (of_decide_eq_true rfl) rfl ?_)
    refine rn ?_
    refine GL.cons (Step.off (v := U 0) rfl (of_decide_eq_true rfl) rfl ?_)
    refine rn ?_
    rw [decide_eq_true (p := ([] : List UInt8) = []) rfl]
    refine rn ?_
    refine GL.cons (Step.off (v := .int .i64 0) rfl (of_decide_eq_true rfl) rfl ?_)
    refine rn ?_
    refine sSt tb (vs := [S (trimZ dg), .int .i64 (-(kk : Int))]) (fun WR hbR hwR => ?_)
    refine rn ?_
    exact G.retAT tb rfl rfl hbR.cells ⟨⟨_, _, false, rfl, .inr ⟨rfl, hrp⟩⟩, Below.wr hx10 hwR (Nat.le_refl _)⟩ rfl rfl rfl rfl rfl rfl rfl
  obtain ⟨n, hn⟩ : ∃ n, n = (d :: r).length := ⟨_, rfl⟩
  have hn1 : n = r.length + 1 := by rw [hn]; rfl
  rw [← hn] at hr4
  refine rn ?_
  rw [decide_eq_false (p := (d :: r) = []) (by simp)]
  refine rn ?_
  refine sBs tb 0 ?_ (hj := fun _ => ⟨rfl, by rw [← hn]; omega⟩)
  rw [List.getD_cons_zero]
  refine rn ?_
  refine sBs tb 0 ?_ (hj := fun _ => ⟨rfl, by rw [← hn]; omega⟩)
  rw [List.getD_cons_zero]
  refine rn ?_
  have hbe : (!false && (decide (((d.toNat : Nat) : Int) = 43) || decide (((d.toNat : Nat) : Int) = 45))) = decide (d.toNat = 43 ∨ d.toNat = 45) := by
    rw [Bool.eq_iff_iff]
    simp only [Bool.not_false, Bool.true_and, Bool.or_eq_true, decide_eq_true_eq]
    omega
  rw [hbe]
  clear hbe
  have hsg : signed (d :: r) = decide (d.toNat = 43 ∨ d.toNat = 45) := by
    unfold signed
    rw [Bool.eq_iff_iff]
    simp only [List.head?_cons, Bool.or_eq_true, beq_iff_eq, decide_eq_true_eq, Option.some.injEq]
    rw [← UInt8.toNat_inj, ← UInt8.toNat_inj]
    exact Iff.rfl
  have hmn : minus (d :: r) = decide (d.toNat = 45) := by
    unfold minus
    rw [Bool.eq_iff_iff]
    simp only [List.head?_cons, beq_iff_eq, decide_eq_true_eq, Option.some.injEq]
    rw [← UInt8.toNat_inj]
    exact Iff.rfl
  refine G.join (fun _ : Unit => [(0, none, S (unsign (d :: r))), (2, none, ptr w.heap.size), (5, none, ptr b5), (6, none, .int .i64 (if minus (d :: r) then -1 else 1))]) (fun _ W' => W' = W10) ?_ ?_
  rotate_left
  · unfold unsign
    rw [hsg]
    by_cases hsi : d.toNat = 43 ∨ d.toNat = 45
    · rw [decide_eq_true hsi, if_pos rfl]
      refine rn ?_
      refine sBs tb 0 ?_ (hj := fun _ => ⟨rfl, by rw [← hn]; omega⟩)
      rw [List.getD_cons_zero]
      refine rn ?_
      refine G.join (fun _ : Unit => [(0, none, S (d :: r)), (2, none, ptr w.heap.size), (5, none, ptr b5), (6, none, .int .i64 (if minus (d :: r) then -1 else 1))]) (fun _ W' => W' = W10) ?_ ?_
      rotate_left
      · rw [hmn]
        by_cases h45 : d.toNat = 45
        · rw [decide_eq_true (p := ((d.toNat : Nat) : Int) = 45) (by omega), decide_eq_true h45, if_pos rfl]
          refine rn ?_
          exact G.met () (by repeat (first | exact Sub.nil _ | refine Sub.cons rfl ?_)) rfl
        · rw [decide_eq_false (p := ((d.toNat : Nat) : Int) = 45) (by omega), decide_eq_false h45, if_neg (by simp)]
          refine rn ?_
          exact G.met () (by repeat (first | exact Sub.nil _ | refine Sub.cons rfl ?_)) rfl
      rintro _ _ rfl
      generalize (if minus (d :: r) = true then (-1 : Int) else 1) = by_
      refine rn ?_
      refine GL.cons (Step.sliceSl tb 1 rfl (Op1.of rfl (by first | exact fun _ => rfl | exact fun h => h | exact fun h => bL h | exact fun h => bL (bL h) | exact fun h => bL (bL (bL h)))) (Op1.of rfl (by first | exact fun _ => rfl | exact fun h => h | exact fun h => bL h | exact fun h => bL (bL h) | exact fun h => bL (bL (bL h)))) rfl (fun _ => ⟨rfl, by rw [← hn]; omega⟩) rfl ?_)
      refine rn ?_
      exact G.met () (by repeat (first | exact Sub.nil _ | refine Sub.cons rfl ?_)) rfl
    · rw [decide_eq_false hsi, if_neg (by simp), hmn, decide_eq_false (p := d.toNat = 45) (by omega), if_neg (by simp)]
      refine rn ?_
      exact G.met () (by repeat (first | exact Sub.nil _ | refine Sub.cons rfl ?_)) rfl
  rintro _ W10 rfl
  have hul : (unsign (d :: r)).length ≤ n := by
    unfold unsign
    split
    · rw [List.length_drop, ← hn]; omega
    · rw [hn]; exact Nat.le_refl _
  have hby : (if minus (d :: r) = true then (-1 : Int) else 1) = -1 ∨ (if minus (d :: r) = true then (-1 : Int) else 1) = 1 := by split <;> simp
  clear hmn hsg
  generalize unsign (d :: r) = u at hrp hul ⊢
  obtain ⟨neg, hng⟩ : ∃ b, b = minus (d :: r) := ⟨_, rfl⟩
  rw [← hng] at hrp hby ⊢
  obtain ⟨by_, hbyy⟩ : ∃ x, x = (if neg = true then (-1 : Int) else 1) := ⟨_, rfl⟩
  rw [← hbyy] at hby ⊢
  by_cases hu0 : u = []
  · rw [if_pos (.inl hu0)] at hrp
    subst hu0
    refine rn ?_
    rw [decide_eq_true (p := ([] : List UInt8) = []) rfl]
    refine GL.cons (Step.off (v := .int .i64 0) rfl (of_decide_eq_true rfl) rfl ?_)
    refine rn ?_
    refine sSt tb (vs := [S (trimZ dg), .int .i64 (-(kk : Int))]) (fun WR hbR hwR => ?_)
    refine rn ?_
    exact G.retAT tb rfl rfl hbR.cells ⟨⟨_, _, false, rfl, .inr ⟨rfl, hrp⟩⟩, Below.wr hx10 hwR (Nat.le_refl _)⟩ rfl rfl rfl rfl rfl rfl rfl
  refine rn ?_
  rw [decide_eq_false hu0]
  refine GL.cons (Step.callX rfl rfl (by repeat (first | exact OpL.nil | refine OpL.cons (Op1.of rfl (by first | exact fun _ => rfl | exact fun h => h | exact fun h => bL h | exact fun h => bL (bL h) | exact fun h => bL (bL (bL h)))) ?_)) c165 rfl (fun hc => run_ok u W10 (by omega)) ?_)
  intro W11 hx11
  refine rn ?_
  by_cases hru : runD u = u.length
  rotate_left
  · rw [if_pos (.inr hru)] at hrp
    have hb2 := hb2.to hx11
    have hb10 := hb10.to hx11
    rw [decide_eq_false (p := ((runD u : Nat) : Int) = ((u.length : Nat) : Int)) (by omega)]
    refine rn ?_
    refine sSt tb (vs := [S (trimZ dg), .int .i64 (-(kk : Int))]) (fun WR hbR hwR => ?_)
    refine rn ?_
    exact G.retAT tb rfl rfl hbR.cells ⟨⟨_, _, false, rfl, .inr ⟨rfl, hrp⟩⟩, Below.wr (hx10.trans hx11) hwR (Nat.le_refl _)⟩ rfl rfl rfl rfl rfl rfl rfl
  rw [if_neg (by rintro (h | h); exact hu0 h; exact h hru)] at hrp
  rw [decide_eq_true (p := ((runD u : Nat) : Int) = ((u.length : Nat) : Int)) (by omega)]
  have hdig := runD_all hru
  have hb2 := hb2.to hx11
  have hb10 := hb10.to hx11
  have hx011 := hx10.trans hx11
  clear hx11 hx10
  refine rn ?_
  refine (G.loop (fun i : Nat => [(0, none, S u), (2, none, ptr w.heap.size), (5, none, ptr b5), (6, none, .int .i64 by_), (7, none, .int .i64 ((cutE 100000 u i : Nat) : Int)), (88, none, .int .i64 u.length), (89, none, .int .i64 i)]) (fun i W => W = W11 ∧ i ≤ u.length) (fun i => u.length - i) 0 (by repeat (first | exact Sub.nil _ | refine Sub.cons rfl ?_)) ⟨rfl, Nat.zero_le _⟩ ?_)
  rintro i W11 ⟨rfl, hi⟩
  have hcut : cutE 100000 u i ≤ 100000 := by
    cases i with
    | zero => exact Nat.zero_le _
    | succ i => exact Nat.min_le_right _ _
  have hcs : cutE 100000 u (i + 1) = min (10 * cutE 100000 u i + ((u.getD i 0).toNat - 48)) 100000 := rfl
  have hce := cutE_eq 100000 u i hi
  refine rn ?_
  first | refine G.condD rfl (fun hc => ?_) (fun hc => ?_) | refine G.condN rfl (fun hc => ?_) (fun hc => ?_) | refine G.cond rfl (fun hc => ?_) (fun hc => ?_)
  · have hlt : i < u.length := by omega
    have hc : 48 ≤ (u.getD i 0).toNat ∧ (u.getD i 0).toNat ≤ 57 := hdig (u.getD i 0) (by rw [List.getD_eq_getElem?_getD, List.getElem?_eq_getElem hlt]; exact List.getElem_mem hlt)
    obtain ⟨c, hgc⟩ : ∃ c, u.getD i 0 = c := ⟨_, rfl⟩
    rw [hgc] at hc hcs
    refine rn ?_
    refine sAd tb (r := ((10 * cutE 100000 u i : Nat) : Int)) ?_ (hp := (wrap_i64 (n := 10 * ((cutE 100000 u i : Nat) : Int)) (by omega) (by omega)).trans (by omega))
    refine rn ?_
    refine sBs tb i ?_ (hj := fun _ => ⟨rfl, hlt⟩)
    refine rn ?_
    rw [hgc]
    refine GL.cons (Step.arith (k := .u8) (a := (c.toNat : Int)) (b := 48) (r := ((c.toNat - 48 : Nat) : Int)) rfl (Op1.of rfl (by first | exact fun _ => rfl | exact fun h => h | exact fun h => bL h | exact fun h => bL (bL h) | exact fun h => bL (bL (bL h)))) (Op1.of rfl (by first | exact fun _ => rfl | exact fun h => h | exact fun h => bL h | exact fun h => bL (bL h) | exact fun h => bL (bL (bL h)))) ((Go.Vg.wrap_u8 _).trans (by omega)) rfl ?_)
    refine rn ?_
    refine sCv tb (r := ((c.toNat - 48 : Nat) : Int)) ?_
    refine sAd tb (r := ((10 * cutE 100000 u i + (c.toNat - 48) : Nat) : Int)) ?_ (hp := (wrap_i64 (n := ((10 * cutE 100000 u i : Nat) : Int) + ((c.toNat - 48 : Nat) : Int)) (by omega) (by omega)).trans (by omega))
    refine rn ?_
    refine GL.cons (Step.min2 rfl (Op1.of rfl (by first | exact fun _ => rfl | exact fun h => h | exact fun h => bL h | exact fun h => bL (bL h) | exact fun h => bL (bL (bL h)))) (Op1.of rfl (by first | exact fun _ => rfl | exact fun h => h | exact fun h => bL h | exact fun h => bL (bL h) | exact fun h => bL (bL (bL h)))) rfl ?_)
    rw [show (if (100000 : Int) < ((10 * cutE 100000 u i + (c.toNat - 48) : Nat) : Int) then (100000 : Int) else ((10 * cutE 100000 u i + (c.toNat - 48) : Nat) : Int)) = ((cutE 100000 u (i + 1) : Nat) : Int) by rw [hcs]; split <;> omega]
    refine rn ?_
    refine sAd tb (r := ((i + 1 : Nat) : Int)) ?_
    refine rn ?_
    exact G.lp (x := i) (i + 1) (by repeat (first | exact Sub.nil _ | refine Sub.cons rfl ?_)) ⟨rfl, by omega⟩ (by omega)
  · have hie : i = u.length := by omega
    rw [hie, List.take_length] at hce
    have hbe : -100000 ≤ by_ * ((cutE 100000 u u.length : Nat) : Int) ∧ by_ * ((cutE 100000 u u.length : Nat) : Int) ≤ 100000 := by
      rw [hie] at hcut
      rcases hby with h | h <;> rw [h] <;> omega
    have hrp : readP s = some (trimZ dg, -(kk : Int) + (if neg = true then -1 else 1) * ((min (numL u 0) 100000 : Nat) : Int)) := hrp
    rw [← hbyy, ← hce] at hrp
    rw [hie]
    obtain ⟨p, hp⟩ : ∃ p, p = by_ * ((cutE 100000 u u.length : Nat) : Int) := ⟨_, rfl⟩
    rw [← hp] at hrp hbe
    refine rn ?_
    refine sAd tb (r := p) ?_ (hp := (wrap_i64 (n := by_ * ((cutE 100000 u u.length : Nat) : Int)) (by omega) (by omega)).trans hp.symm)
    refine rn ?_
    refine sAd tb (r := -(kk : Int) + p) ?_ (hp := wrap_i64 (by omega) (by omega))
    refine rn ?_
    refine sSf tb (fun W12 hb12 hw12 => ?_)
    have hx12 := Below.wr hx011 hw12 (by omega)
    have hb2 := hb2.wr hw12 (by omega)
    have hb12 : Bx W12 b5 [S (trimZ dg), .int .i64 (-(kk : Int) + p)] := hb12
    refine rn ?_
    refine sSt tb (vs := [S (trimZ dg), .int .i64 (-(kk : Int) + p)]) (fun WR hbR hwR => ?_)
    refine rn ?_
    exact G.retAT tb rfl rfl hbR.cells ⟨⟨_, _, true, rfl, .inl ⟨rfl, hrp⟩⟩, Below.wr hx12 hwR (Nat.le_refl _)⟩ rfl rfl rfl rfl rfl rfl rfl
end Go.Proofs.YtcngoccnfmhhnaaGreatDoor
end
section
open Go Go.Vg Go.RowKit Go.Proofs Go.Proofs.YtcngoccnfmhhnaaGreatDoor
namespace Go.Proofs.YtcngoccnfmhhnaaGreatDoor
open Go.Nm

theorem near_fin (e2 : Int) (m2 : Nat) : (if 971 < e2 then infB else if m2 < 2 ^ 52 then m2 else (e2 + 1075).toNat * 2 ^ 52 + m2 % 2 ^ 52) < 2 ^ 63 := by
  have hi : infB < 2 ^ 63 := by decide
  split
  · exact hi
  · split <;> omega
theorem near_bd (q L : Nat) (e : Int) (more : Bool) : near q L e more < 2 ^ 63 := by
  unfold near
  simp only
  by_cases h : 63 < max ((L : Int) - 53) (-1074 - e)
  · rw [if_pos h]; exact Nat.two_pow_pos 63
  · rw [if_neg h]; exact near_fin _ _
theorem progBits_bd (ds : List UInt8) (x : Int) : progBits ds x < 2 ^ 63 := by
  unfold progBits
  split
  · exact Nat.two_pow_pos 63
  · split
    · decide
    · exact near_bd _ _ _ _
theorem or_sym (a b : Int) : bits .or .u64 a b = bits .or .u64 b a := by
  show IntKind.u64.wrap ((BitVec.ofInt 64 a ||| BitVec.ofInt 64 b).toNat : Int) = IntKind.u64.wrap ((BitVec.ofInt 64 b ||| BitVec.ofInt 64 a).toNat : Int)
  rw [BitVec.or_comm]
theorem or_sgn {b : Nat} (hb : b < 2 ^ 63) (n : Bool) : bits .or .u64 (b : Int) ((sgn n : Nat) : Int) = ((b + sgn n : Nat) : Int) := by
  rw [or_sym]
  cases n
  · have := or_low64 0 b 63 hb (by omega)
    rw [Nat.mul_zero, Nat.zero_add] at this
    exact this
  · have := or_low64 1 b 63 hb (by omega)
    rw [Nat.mul_one, Nat.add_comm] at this
    exact this
/-- what read finds -/
theorem read_bd {s ds : List UInt8} {x : Int} (h : readP s = some (ds, x)) : ∃ l, allD l ∧ ds = trimZ l ∧ l.length ≤ s.length ∧ -((s.length : Nat) : Int) - 100000 ≤ x ∧ x ≤ 100000 := by
  unfold readP at h
  have hsl := split_len s
  have hsd := split_dig s
  split at h
  · simp at h
  · split at h
    · injection h with h
      injection h with h1 h2
      exact ⟨_, hsd, h1.symm, by omega, by omega, by omega⟩
    · revert h
      generalize expP (splitP s).2.2 = r
      rcases r with _ | ⟨ng, l⟩
      · intro h; simp at h
      · intro h
        injection h with h
        injection h with h1 h2
        have hm : min (numL l 0) 100000 ≤ 100000 := Nat.min_le_right _ _
        generalize min (numL l 0) 100000 = m at hm h2
        refine ⟨_, hsd, h1.symm, by omega, ?_, ?_⟩ <;> (cases ng <;> simp at h2 <;> omega)
/-- what Parse tells -/
def ParseR (s : List UInt8) (r : Value) : Prop := match parseP s with
  | none => r = .tuple ⟨[Fl 0, .int .i64 8]⟩
  | some b => r = .tuple ⟨[Fl b, .int .i64 0]⟩
set_option maxHeartbeats 4000000 in
theorem parse_ok (s : List UInt8) (w : World) (hs : s.length ≤ 9223372036854775807) : Ret Tryz.prog 142 ⟨[S s]⟩ w fun r w' => ParseR s r ∧ Ext w w' := by
  unfold ParseR
  refine ret_of_G Tryz.func142 rfl Tryz.ntmps142 rfl ?_
  simp only [argEnv]
  refine rn ?_
  by_cases h400 : 400 < s.length
  · rw [decide_eq_true (p := (400 : Int) < ((s.length : Nat) : Int)) (by omega)]
    have hP : parseP s = none := by unfold parseP; rw [if_pos h400]
    rw [hP]
    refine rn ?_
    refine G.ret2 rfl rfl rfl rfl rfl ?_
    exact ⟨rfl, Ext.refl _⟩
  rw [decide_eq_false (p := (400 : Int) < ((s.length : Nat) : Int)) (by omega)]
  have hP : parseP s = if (unsign s).map lowB = [110, 97, 110] then some nanB
      else if (unsign s).map lowB = [105, 110, 102] ∨ (unsign s).map lowB = [105, 110, 102, 105, 110, 105, 116, 121] then some (infB + sgn (minus s))
      else match readP (unsign s) with
        | none => none
        | some (ds, x) => some (progBits ds x + sgn (minus s)) := by unfold parseP; rw [if_neg h400]; rfl
  have hpos : (!decide (s = [])) = true → 0 < s.length := fun h => by
    apply List.length_pos_iff.2
    intro h0
    rw [decide_eq_true h0] at h
    simp at h
  have hsg : (!decide (s = []) && (decide (((s.getD 0 0).toNat : Int) = 43) || decide (((s.getD 0 0).toNat : Int) = 45))) = signed s := by
    cases s with
    | nil => rfl
    | cons d l =>
      unfold signed
      rw [Bool.eq_iff_iff, decide_eq_false (p := d :: l = []) (by simp), List.getD_cons_zero]
      simp only [List.head?_cons, Bool.not_false, Bool.true_and, Bool.or_eq_true, beq_iff_eq, decide_eq_true_eq, Option.some.injEq]
      rw [← UInt8.toNat_inj, ← UInt8.toNat_inj]
      show (_ ∨ _) ↔ (d.toNat = 43 ∨ d.toNat = 45)
      omega
  have hmn : signed s = true → decide (((s.getD 0 0).toNat : Int) = 45) = minus s := by
    cases s with
    | nil => intro h; cases h
    | cons d l =>
      intro _
      unfold minus
      rw [Bool.eq_iff_iff, List.getD_cons_zero]
      simp only [List.head?_cons, beq_iff_eq, decide_eq_true_eq, Option.some.injEq]
      rw [← UInt8.toNat_inj]
      show _ ↔ d.toNat = 45
      omega
  have hspos : signed s = true → 0 < s.length := by
    cases s with
    | nil => intro h; cases h
    | cons d l => intro _; simp
  have hmn0 : signed s = false → minus s = false := by
    unfold signed minus
    simp only [Bool.or_eq_false_iff]
    exact fun h => h.2
  refine rn ?_
  refine sBs tb 0 ?_ (hj := by intro h; exact ⟨rfl, hpos h⟩)
  refine rn ?_
  refine sBs tb 0 ?_ (hj := by intro h; exact ⟨rfl, hpos (by revert h; cases decide (s = []) <;> simp [cv])⟩)
  refine rn ?_
  rw [hsg]
  refine G.join (fun _ : Unit => [(0, none, S (unsign s)), (4, none, .int .u64 ((sgn (minus s) : Nat) : Int))]) (fun _ W' => W' = w) ?_ ?_
  rotate_left
  · unfold unsign
    cases hs1 : signed s
    · rw [hmn0 hs1, if_neg (by simp)]
      refine rn ?_
      exact G.met () (by repeat (first | exact Sub.nil _ | refine Sub.cons rfl ?_)) rfl
    · rw [if_pos rfl]
      have hpos := hspos hs1
      refine rn ?_
      refine sBs tb 0 ?_ (hj := fun _ => ⟨rfl, hpos⟩)
      refine rn ?_
      rw [hmn hs1]
      refine G.join (fun _ : Unit => [(0, none, S s), (4, none, .int .u64 ((sgn (minus s) : Nat) : Int))]) (fun _ W' => W' = w) ?_ ?_
      rotate_left
      · cases minus s
        · refine rn ?_
          exact G.met () (by repeat (first | exact Sub.nil _ | refine Sub.cons rfl ?_)) rfl
        · refine rn ?_
          exact G.met () (by repeat (first | exact Sub.nil _ | refine Sub.cons rfl ?_)) rfl
      rintro _ w rfl
      refine rn ?_
      refine GL.cons (Step.sliceSl tb 1 rfl (Op1.of rfl (by first | exact fun _ => rfl | exact fun h => h | exact fun h => bL h | exact fun h => bL (bL h) | exact fun h => bL (bL (bL h)))) (Op1.of rfl (by first | exact fun _ => rfl | exact fun h => h | exact fun h => bL h | exact fun h => bL (bL h) | exact fun h => bL (bL (bL h)))) rfl (fun _ => ⟨rfl, hpos⟩) rfl ?_)
      refine rn ?_
      exact G.met () (by repeat (first | exact Sub.nil _ | refine Sub.cons rfl ?_)) rfl
  rintro _ w rfl
  have hul : (unsign s).length ≤ s.length := by
    unfold unsign
    split
    · rw [List.length_drop]; omega
    · exact Nat.le_refl _
  clear hsg hmn hspos hmn0 hpos
  generalize unsign s = u at hP hul ⊢
  generalize minus s = neg at hP ⊢
  refine rn ?_
  refine sCall c161 (small_ok u w (by omega)) ?_
  rintro _ W1 ⟨rfl, hx1⟩
  refine rn ?_
  by_cases h1 : u.map lowB = [110, 97, 110]
  · rw [decide_eq_true h1]
    rw [if_pos h1] at hP
    rw [hP]
    refine rn ?_
    refine GL.cons (Step.ext rfl rfl (by repeat (first | exact OpL.nil | refine OpL.cons (Op1.of rfl (by first | exact fun _ => rfl | exact fun h => h | exact fun h => bL h | exact fun h => bL (bL h) | exact fun h => bL (bL (bL h)))) ?_)) (run_ofbits Tryz.func41 (by kernel_rfl) (by kernel_rfl) (by kernel_rfl) (by kernel_rfl) nanB _) rfl ?_)
    refine rn ?_
    refine G.ret2 rfl rfl rfl rfl rfl ?_
    exact ⟨rfl, hx1⟩
  rw [if_neg h1] at hP
  rw [decide_eq_false h1]
  refine rn ?_
  refine G.join (fun _ : Unit => [(0, none, S u), (4, none, .int .u64 ((sgn neg : Nat) : Int)), (32, none, .bool (decide (u.map lowB = [105, 110, 102] ∨ u.map lowB = [105, 110, 102, 105, 110, 105, 116, 121])))]) (fun _ W' => W' = W1) ?_ ?_
  rotate_left
  · by_cases h2 : u.map lowB = [105, 110, 102]
    · rw [decide_eq_true h2, decide_eq_true (.inl h2)]
      refine rn ?_
      exact G.met () (by repeat (first | exact Sub.nil _ | refine Sub.cons rfl ?_)) rfl
    · rw [decide_eq_false h2, show decide (u.map lowB = [105, 110, 102] ∨ u.map lowB = [105, 110, 102, 105, 110, 105, 116, 121]) = decide (u.map lowB = [105, 110, 102, 105, 110, 105, 116, 121]) from decide_eq_decide.2 (or_iff_right h2)]
      refine rn ?_
      exact G.met () (by repeat (first | exact Sub.nil _ | refine Sub.cons rfl ?_)) rfl
  rintro _ W1 rfl
  by_cases h2 : u.map lowB = [105, 110, 102] ∨ u.map lowB = [105, 110, 102, 105, 110, 105, 116, 121]
  · rw [decide_eq_true h2]
    rw [if_pos h2] at hP
    rw [hP]
    refine rn ?_
    rw [show (9218868437227405312 : Int) = ((infB : Nat) : Int) by decide, or_sgn (by decide) neg]
    refine GL.cons (Step.ext rfl rfl (by repeat (first | exact OpL.nil | refine OpL.cons (Op1.of rfl (by first | exact fun _ => rfl | exact fun h => h | exact fun h => bL h | exact fun h => bL (bL h) | exact fun h => bL (bL (bL h)))) ?_)) (run_ofbits Tryz.func41 (by kernel_rfl) (by kernel_rfl) (by kernel_rfl) (by kernel_rfl) _ _) rfl ?_)
    refine rn ?_
    refine G.ret2 rfl rfl rfl rfl rfl ?_
    exact ⟨rfl, hx1⟩
  rw [decide_eq_false h2]
  rw [if_neg h2] at hP
  refine rn ?_
  refine sCall c162 (read_ok u W1 (by omega)) ?_
  rintro _ W2 ⟨⟨ds, x, ok, rfl, hr⟩, hx2⟩
  have hx02 := hx1.trans hx2
  refine rn ?_
  refine sAl tb (us := [S [], .int .i64 0]) (fun W3 hb5 hs3 hx3 => ?_)
  refine sSt tb (vs := [S ds, .int .i64 x]) (fun W4 hb5 hw4 => ?_)
  have hx4 : Ext W2 W4 := Below.wr hx3 hw4 (Nat.le_refl _)
  have hx04 := hx02.trans hx4
  refine rn ?_
  rcases hr with ⟨rfl, hr⟩ | ⟨rfl, hr⟩
  rotate_left
  · rw [hr] at hP
    have hP : parseP s = none := hP
    rw [hP]
    refine rn ?_
    refine G.ret2 rfl rfl rfl rfl rfl ?_
    exact ⟨rfl, hx04⟩
  rw [hr] at hP
  have hP : parseP s = some (progBits ds x + sgn neg) := hP
  rw [hP]
  obtain ⟨l, hd, rfl, hl, hxl, hxu⟩ := read_bd hr
  refine rn ?_
  refine sCall c163 (bits_ok l x W4 hd (by omega) (by omega) (by omega)) ?_
  rintro _ W5 ⟨rfl, hx5⟩
  refine rn ?_
  rw [or_sgn (progBits_bd _ _) neg]
  refine GL.cons (Step.ext rfl rfl (by repeat (first | exact OpL.nil | refine OpL.cons (Op1.of rfl (by first | exact fun _ => rfl | exact fun h => h | exact fun h => bL h | exact fun h => bL (bL h) | exact fun h => bL (bL (bL h)))) ?_)) (run_ofbits Tryz.func41 (by kernel_rfl) (by kernel_rfl) (by kernel_rfl) (by kernel_rfl) _ _) rfl ?_)
  refine rn ?_
  refine G.ret2 rfl rfl rfl rfl rfl ?_
  exact ⟨rfl, hx04.trans hx5⟩
end Go.Proofs.YtcngoccnfmhhnaaGreatDoor
end
section
namespace Go.Nm
open Go.Vg Ieee

def sg (s : Bool) : Int := if s then -1 else 1
theorem inf_eq : infB = 9218868437227405312 := by decide
theorem word_rung (s : Bool) (R : Nat) : double.word s R = R + sgn s := by
  unfold Format.word sgn
  rw [d_sw]
  cases s <;> simp
  omega
theorem read_rung (s : Bool) {R : Nat} (h : R < infB) : double.read (R + sgn s) = .number s (mB R) ((kB R : Int) - 1074) := by
  rw [inf_eq] at h
  rw [← word_rung, read_word s R h]
  unfold mB kB
  have e : (2 : Nat) ^ 52 = 4503599627370496 := by decide
  rw [e]
  by_cases h0 : R < 4503599627370496
  · rw [if_pos h0, if_pos (by omega), show R / 4503599627370496 - 1 = 0 by omega]
    rfl
  · rw [if_neg h0, if_neg (by omega), Nat.add_comm, Int.add_comm]
    rfl
theorem read_inf (s : Bool) : double.read (infB + sgn s) = .infinity s := by
  rw [← word_rung, inf_eq]
  cases s <;> decide
theorem read_nan : ∃ s f, double.read nanB = .nan s f := ⟨false, 2251799813685249, by decide +kernel⟩
theorem cmp_eq_iff {x y : Int} : compare x y = .eq ↔ x = y := by
  simp only [compare, compareOfLessAndEq]
  split
  · simp; omega
  · split <;> simp [*]
theorem nan_cmp {b : Nat} (h : ∃ s f, double.read b = .nan s f) (c : Nat) : fcmpB .leq b c = some false ∧ fcmpB .geq b c = some false ∧ fcmpB .gtr b c = some false ∧ fcmpB .neq b c = some true := by
  obtain ⟨s, f, h⟩ := h
  have : FloatKind.f64.format.order b c = none := by
    show (double.read b).order (double.read c) = none
    rw [h]; rfl
  unfold fcmpB
  simp only [this]
  exact ⟨rfl, rfl, rfl, rfl⟩
theorem self_neq {b : Nat} (h : ∀ s f, double.read b ≠ .nan s f) : fcmpB .neq b b = some false := by
  have : FloatKind.f64.format.order b b = some .eq := by
    show (double.read b).order (double.read b) = _
    cases hr : double.read b with
    | nan s f => exact absurd hr (h s f)
    | infinity s => cases s <;> rfl
    | number s m i =>
      unfold Datum.order
      simp only
      rw [cmp_eq_iff.2 rfl]
  unfold fcmpB
  simp only [this]
  rfl
end Go.Nm
end
section
namespace Go.Vg
open Go.RowKit Ieee Go.Nm
/-- a word that is no number -/
def NanW (r : Nat) : Prop := ∃ R s, infB < R ∧ R < 2 ^ 63 ∧ r = R + sgn s
theorem NanW.read {r : Nat} (h : NanW r) : ∃ s f, double.read r = .nan s f := by
  obtain ⟨R, s, h1, h2, rfl⟩ := h
  rw [inf_eq] at h1
  rw [← word_rung]
  refine ⟨s, R - 9218868437227405312, ?_⟩
  unfold Format.read Format.word
  rw [d_bin, d_inf, d_sw]
  have e1 : (if s then 9223372036854775808 + R else R) % 9223372036854775808 = R := by cases s <;> simp <;> omega
  have e2 : (((if s then 9223372036854775808 + R else R) / 9223372036854775808 % 2 == 1)) = s := by
    cases s
    · rw [if_neg (by simp), Nat.div_eq_of_lt (by omega)]; rfl
    · rw [if_pos rfl, show (9223372036854775808 + R) / 9223372036854775808 = 1 by omega]; rfl
  dsimp only
  rw [e1, e2, if_neg (by omega), if_neg (by omega), if_neg (by omega)]
section
variable {X : Cx} {ops : Array Oper} {e : Env} {w : World} {N : Env → World → Prop} {d : Nat} {ty : TypeId} {pos : String} {af : Array Edge} {g : Option (Nat × Bool)}
end
end Go.Vg
end
section
namespace Go.Vg
variable {X : Cx} {k k' : List Kt} {ops ops' : Array Oper} {l l' : List Oper} {e e' : Env} {w : World} {L : List Prop}
theorem lgN (T : Tb X.P) (f : Nat) (h : G X k' e' w) (hr : goK T X.n f (.r ops l k) e [] = .done (.g k') e' L := by exact rfl)
    (hL : AllP L := by repeat (first | exact trivial | refine And.intro (by first | exact fun _ => rfl | exact fun h => h | exact fun h => bL h | exact fun h => bL (bL h) | exact fun h => bL (bL (bL h)) | exact fun _ _ => rfl | exact fun _ h => h | exact fun _ h => bNot h | exact fun h k => bAnd h k | exact fun h k => bAnd h (bNot k)) ?_)) : GL X ops l k e w := (goK_ok T f (.r ops l k) e [] hr hL h).2
end Go.Vg
end
section
namespace Go.Ex
open Go.Nm

def blB (c : UInt8) : Bool := decide (c.toNat = 32) || decide (c.toNat = 9)
def bls : List UInt8 → Nat
  | [] => 0
  | c :: l => if blB c then bls l + 1 else 0
def skipB (l : List UInt8) : List UInt8 := l.drop (bls l)
def letB (colons : Bool) (c : UInt8) : Bool :=
  (decide (97 ≤ c.toNat) && decide (c.toNat ≤ 122)) || (decide (65 ≤ c.toNat) && decide (c.toNat ≤ 90)) || decide (c.toNat = 95) || (decide (c.toNat = 58) && colons)
def nameN (colons first : Bool) : List UInt8 → Nat
  | [] => 0
  | c :: l => if letB colons c || (!first && isD c) then nameN colons false l + 1 else 0
/-- a name, and what is behind it -/
def nameP (colons : Bool) (l : List UInt8) : Option (List UInt8 × List UInt8) :=
  if nameN colons true l = 0 then none else some (l.take (nameN colons true l), l.drop (nameN colons true l))
/-- what stands behind a backslash -/
def escP : List UInt8 → Option (UInt8 × List UInt8)
  | [] => none
  | c :: l => if c = 92 then some (92, l) else if c = 34 then some (34, l) else if c = 110 then some (10, l) else none
def quoGo : Nat → List UInt8 → List UInt8 → Option (List UInt8 × List UInt8)
  | 0, _, _ => none
  | _ + 1, _, [] => none
  | f + 1, out, c :: l =>
    if c = 34 then some (out, l)
    else if c = 92 then match escP l with
      | none => none
      | some (b, r) => quoGo f (out ++ [b]) r
    else quoGo f (out ++ [c]) l
/-- a value in quotes -/
def quoP : List UInt8 → Option (List UInt8 × List UInt8)
  | [] => none
  | c :: l => if c = 34 then match quoGo (l.length + 1) [] l with
      | none => none
      | some (o, r) => if Lib.validD o then some (o, r) else none
    else none
def mustP (b : UInt8) : List UInt8 → Option (List UInt8)
  | [] => none
  | c :: l => if c = b then some l else none
/-- one label -/
def labP (l : List UInt8) : Option ((List UInt8 × List UInt8) × List UInt8) :=
  match nameP false l with
  | none => none
  | some (n, l1) => match mustP 61 (skipB l1) with
    | none => none
    | some l2 => match quoP (skipB l2) with
      | none => none
      | some (v, l3) => some ((n, v), l3)
def labGo : Nat → List (List UInt8 × List UInt8) → List UInt8 → Option (List (List UInt8 × List UInt8) × List UInt8)
  | 0, _, _ => none
  | f + 1, acc, l =>
    if l.head? = some 125 then some (acc, l) else
    match labP l with
    | none => none
    | some (x, r) => if x.1 ∈ acc.map (·.1) then none
      else if (skipB r).head? = some 44 then labGo f (acc ++ [x]) (skipB ((skipB r).drop 1))
      else some (acc ++ [x], skipB r)
/-- labels in braces -/
def labsP (l : List UInt8) : Option (List (List UInt8 × List UInt8) × List UInt8) :=
  match mustP 123 l with
  | none => none
  | some l1 => match labGo (l1.length + 1) [] (skipB l1) with
    | none => none
    | some (ls, l2) => match mustP 125 l2 with
      | none => none
      | some l3 => some (ls, l3)
def tokN : List UInt8 → Nat
  | [] => 0
  | c :: l => if blB c then 0 else tokN l + 1
def tokP (l : List UInt8) : Option (List UInt8 × List UInt8) := if tokN l = 0 then none else some (l.take (tokN l), l.drop (tokN l))
/-- a whole number's text; the reader's own -/
structure LineS where
  name : List UInt8
  labs : List (List UInt8 × List UInt8)
  val : Nat
  time : Option Int
/-- behind the name and the labels: the value and the time -/
def numsP (intP : List UInt8 → Option Int) (l : List UInt8) : Option (Nat × Option Int) :=
  match tokP l with
  | none => none
  | some (t, l1) => match parseP t with
    | none => none
    | some v => if skipB l1 = [] then some (v, none) else
      match tokP (skipB l1) with
      | none => none
      | some (t2, l2) => match intP t2 with
        | none => none
        | some n => if n < -9007199254740992 ∨ 9007199254740992 < n then none else if skipB l2 = [] then some (v, some n) else none
def sampleP (intP : List UInt8 → Option Int) (s : List UInt8) : Option LineS :=
  match nameP true (skipB s) with
  | none => none
  | some (nm, l1) =>
    if (skipB l1).head? = some 123 then match labsP (skipB l1) with
      | none => none
      | some (ls, l2) => match numsP intP (skipB l2) with
        | none => none
        | some (v, t) => some ⟨nm, ls, v, t⟩
    else if bls l1 = 0 then none else match numsP intP (skipB l1) with
      | none => none
      | some (v, t) => some ⟨nm, [], v, t⟩
end Go.Ex
end
section
namespace Go.Ex
open Go.Nm

theorem drop_at {s : List UInt8} {k : Nat} (h : k < s.length) : s.drop k = s.getD k 0 :: s.drop (k + 1) := by
  rw [List.drop_eq_getElem_cons h, List.getD_eq_getElem?_getD, List.getElem?_eq_getElem h]; rfl
theorem drop_no {s : List UInt8} {k : Nat} (h : ¬ k < s.length) : s.drop k = [] := List.drop_eq_nil_of_le (by omega)
theorem head_at (s : List UInt8) (k : Nat) (b : UInt8) : decide ((s.drop k).head? = some b) = (decide (k < s.length) && decide (s.getD k 0 = b)) := by
  by_cases h : k < s.length
  · rw [drop_at h]; simp [h]
  · rw [drop_no h]; simp [h]
theorem tokN_le : ∀ l : List UInt8, tokN l ≤ l.length
  | [] => Nat.le_refl _
  | c :: l => by
    have := tokN_le l
    simp only [tokN, List.length_cons]
    split <;> omega
theorem nameN_le : ∀ (l : List UInt8) (c f : Bool), nameN c f l ≤ l.length
  | [], _, _ => Nat.le_refl _
  | b :: l, c, f => by
    have := nameN_le l c false
    simp only [nameN, List.length_cons]
    split <;> omega
theorem skipB_len (l : List UInt8) : (skipB l).length ≤ l.length := by
  unfold skipB; rw [List.length_drop]; omega
theorem skipB_drop (s : List UInt8) (i : Nat) : skipB (s.drop i) = s.drop (i + bls (s.drop i)) := by
  unfold skipB; rw [List.drop_drop]
theorem nameP_len {c : Bool} {l n r : List UInt8} (h : nameP c l = some (n, r)) : r.length + n.length = l.length ∧ 1 ≤ n.length ∧ r = l.drop n.length ∧ n = l.take n.length := by
  unfold nameP at h
  have := nameN_le l c true
  split at h
  · cases h
  · simp only [Option.some.injEq, Prod.mk.injEq] at h
    obtain ⟨rfl, rfl⟩ := h
    simp only [List.length_drop, List.length_take]
    refine ⟨by omega, by omega, ?_, ?_⟩ <;> congr 1 <;> omega
theorem tokP_len {l n r : List UInt8} (h : tokP l = some (n, r)) : r.length + n.length = l.length ∧ 1 ≤ n.length := by
  unfold tokP at h
  have := tokN_le l
  split at h
  · cases h
  · simp only [Option.some.injEq, Prod.mk.injEq] at h
    obtain ⟨rfl, rfl⟩ := h
    simp only [List.length_drop, List.length_take]
    omega
theorem escP_len {l r : List UInt8} {b : UInt8} (h : escP l = some (b, r)) : r.length + 1 = l.length := by
  cases l with
  | nil => cases h
  | cons c l =>
    simp only [escP] at h
    repeat (first | split at h | (simp only [Option.some.injEq, Prod.mk.injEq] at h; obtain ⟨-, rfl⟩ := h; rfl) | cases h)
theorem mustP_len {l r : List UInt8} {b : UInt8} (h : mustP b l = some r) : r.length + 1 = l.length := by
  cases l with
  | nil => cases h
  | cons c l =>
    simp only [mustP] at h
    split at h
    · simp only [Option.some.injEq] at h; subst h; rfl
    · cases h
theorem quoGo_fuel : ∀ (n : Nat) (l out : List UInt8) (f g : Nat), l.length ≤ n → l.length < f → l.length < g → quoGo f out l = quoGo g out l := by
  intro n
  induction n with
  | zero =>
    intro l out f g h hf hg
    obtain rfl : l = [] := List.eq_nil_of_length_eq_zero (by omega)
    obtain ⟨f, rfl⟩ := Nat.exists_eq_succ_of_ne_zero (show f ≠ 0 by omega)
    obtain ⟨g, rfl⟩ := Nat.exists_eq_succ_of_ne_zero (show g ≠ 0 by omega)
    rfl
  | succ n ih =>
    intro l out f g h hf hg
    obtain ⟨f, rfl⟩ := Nat.exists_eq_succ_of_ne_zero (show f ≠ 0 by omega)
    obtain ⟨g, rfl⟩ := Nat.exists_eq_succ_of_ne_zero (show g ≠ 0 by omega)
    cases l with
    | nil => rfl
    | cons c l =>
      simp only [List.length_cons] at h hf hg
      simp only [Nat.succ_eq_add_one, quoGo]
      split
      · rfl
      · split
        · split
          · rfl
          · rename_i b r he
            have := escP_len he
            exact ih _ _ _ _ (by omega) (by omega) (by omega)
        · exact ih _ _ _ _ (by omega) (by omega) (by omega)
theorem quoGo_len : ∀ (f : Nat) (l out o r : List UInt8), quoGo f out l = some (o, r) → r.length + 1 ≤ l.length ∧ o.length ≤ out.length + l.length := by
  intro f
  induction f with
  | zero => intro l out o r h; cases h
  | succ f ih =>
    intro l out o r h
    cases l with
    | nil => cases h
    | cons c l =>
      simp only [quoGo] at h
      split at h
      · simp only [Option.some.injEq, Prod.mk.injEq] at h
        obtain ⟨rfl, rfl⟩ := h
        simp only [List.length_cons]; omega
      · split at h
        · split at h
          · cases h
          · rename_i b r' he
            have h1 := escP_len he
            have h2 := ih _ _ _ _ h
            simp only [List.length_append, List.length_cons, List.length_nil] at h2 ⊢
            omega
        · have h2 := ih _ _ _ _ h
          simp only [List.length_append, List.length_cons, List.length_nil] at h2 ⊢
          omega
theorem quoP_len {l o r : List UInt8} (h : quoP l = some (o, r)) : r.length + 2 ≤ l.length ∧ o.length ≤ l.length := by
  cases l with
  | nil => cases h
  | cons c l =>
    simp only [quoP] at h
    split at h
    · split at h
      · cases h
      · rename_i o' r' hq
        have := quoGo_len _ _ _ _ _ hq
        split at h
        · simp only [Option.some.injEq, Prod.mk.injEq] at h
          obtain ⟨rfl, rfl⟩ := h
          simp only [List.length_cons, List.length_nil] at this ⊢
          omega
        · cases h
    · cases h
theorem labP_len {l r : List UInt8} {x : List UInt8 × List UInt8} (h : labP l = some (x, r)) : r.length + 4 ≤ l.length ∧ x.1.length ≤ l.length ∧ x.2.length ≤ l.length := by
  unfold labP at h
  split at h
  · cases h
  · rename_i n l1 h1
    split at h
    · cases h
    · rename_i l2 h2
      split at h
      · cases h
      · rename_i v l3 h3
        simp only [Option.some.injEq, Prod.mk.injEq] at h
        obtain ⟨rfl, rfl⟩ := h
        have a1 := nameP_len h1
        have a2 := mustP_len h2
        have a3 := quoP_len h3
        have := skipB_len l1
        have := skipB_len l2
        simp only
        omega
theorem labGo_fuel : ∀ (n : Nat) (l : List UInt8) (acc : List (List UInt8 × List UInt8)) (f g : Nat), l.length ≤ n → l.length < f → l.length < g → labGo f acc l = labGo g acc l := by
  intro n
  induction n with
  | zero =>
    intro l acc f g h hf hg
    obtain rfl : l = [] := List.eq_nil_of_length_eq_zero (by omega)
    obtain ⟨f, rfl⟩ := Nat.exists_eq_succ_of_ne_zero (show f ≠ 0 by omega)
    obtain ⟨g, rfl⟩ := Nat.exists_eq_succ_of_ne_zero (show g ≠ 0 by omega)
    rfl
  | succ n ih =>
    intro l acc f g h hf hg
    obtain ⟨f, rfl⟩ := Nat.exists_eq_succ_of_ne_zero (show f ≠ 0 by omega)
    obtain ⟨g, rfl⟩ := Nat.exists_eq_succ_of_ne_zero (show g ≠ 0 by omega)
    simp only [Nat.succ_eq_add_one, labGo]
    split
    · rfl
    · split
      · rfl
      · rename_i x r he
        have h1 := labP_len he
        split
        · rfl
        · split
          · have h2 := skipB_len r
            have h3 := skipB_len ((skipB r).drop 1)
            rw [List.length_drop] at h3
            exact ih _ _ _ _ (by omega) (by omega) (by omega)
          · rfl
theorem labGo_len : ∀ (f : Nat) (l : List UInt8) (acc ls : List (List UInt8 × List UInt8)) (r : List UInt8), labGo f acc l = some (ls, r) → 4 * ls.length ≤ 4 * acc.length + l.length ∧ ∀ m, l.length ≤ m → (∀ x ∈ acc, x.1.length ≤ m ∧ x.2.length ≤ m) → ∀ x ∈ ls, x.1.length ≤ m ∧ x.2.length ≤ m := by
  intro f
  induction f with
  | zero => intro l acc ls r h; cases h
  | succ f ih =>
    intro l acc ls r h
    simp only [labGo] at h
    split at h
    · simp only [Option.some.injEq, Prod.mk.injEq] at h
      obtain ⟨rfl, rfl⟩ := h
      exact ⟨by omega, fun m _ h => h⟩
    · split at h
      · cases h
      · rename_i x q he
        have h1 := labP_len he
        have hac : ∀ m, l.length ≤ m → (∀ y ∈ acc, y.1.length ≤ m ∧ y.2.length ≤ m) → ∀ y ∈ acc ++ [x], y.1.length ≤ m ∧ y.2.length ≤ m := by
          intro m hm ha y hy
          rcases List.mem_append.1 hy with hy | hy
          · exact ha y hy
          · obtain rfl := List.mem_singleton.1 hy
            omega
        split at h
        · cases h
        · split at h
          · have h2 := skipB_len q
            have h3 := skipB_len ((skipB q).drop 1)
            rw [List.length_drop] at h3
            have h4 := ih _ _ _ _ h
            simp only [List.length_append, List.length_cons, List.length_nil] at h4
            exact ⟨by omega, fun m hm ha => h4.2 m (by omega) (hac m hm ha)⟩
          · simp only [Option.some.injEq, Prod.mk.injEq] at h
            obtain ⟨rfl, rfl⟩ := h
            simp only [List.length_append, List.length_cons, List.length_nil]
            exact ⟨by omega, hac⟩
theorem labsP_len {l r : List UInt8} {ls : List (List UInt8 × List UInt8)} (h : labsP l = some (ls, r)) : 4 * ls.length ≤ l.length ∧ ∀ x ∈ ls, x.1.length ≤ l.length ∧ x.2.length ≤ l.length := by
  unfold labsP at h
  split at h
  · cases h
  · rename_i l1 h1
    have e1 := mustP_len h1
    have e2 := skipB_len l1
    split at h
    · cases h
    · rename_i ls' l2 h2
      have e3 := labGo_len _ _ _ _ _ h2
      split at h
      · cases h
      · simp only [Option.some.injEq, Prod.mk.injEq] at h
        obtain ⟨rfl, rfl⟩ := h
        simp only [List.length_nil] at e3
        refine ⟨by omega, e3.2 _ (by omega) (by simp)⟩
theorem sampleP_len {f : List UInt8 → Option Int} {s : List UInt8} {L : LineS} (h : sampleP f s = some L) : 4 * L.labs.length ≤ s.length ∧ (∀ x ∈ L.labs, x.1.length ≤ s.length ∧ x.2.length ≤ s.length) ∧ L.name.length ≤ s.length := by
  unfold sampleP at h
  split at h
  · cases h
  · rename_i nm l1 h1
    have e0 := skipB_len s
    have e1 := nameP_len h1
    have e2 := skipB_len l1
    split at h
    · split at h
      · cases h
      · rename_i ls l2 h2
        have e3 := labsP_len h2
        split at h
        · cases h
        · simp only [Option.some.injEq] at h
          subst h
          refine ⟨by show 4 * ls.length ≤ _; omega, fun x hx => ?_, by show nm.length ≤ _; omega⟩
          have := e3.2 x hx
          omega
    · split at h
      · cases h
      · split at h
        · cases h
        · simp only [Option.some.injEq] at h
          subst h
          exact ⟨by simp, by simp, by show nm.length ≤ _; omega⟩
end Go.Ex
end
section
open Go Go.Vg Go.RowKit Go.Proofs Go.Proofs.YtcngoccnfmhhnaaGreatDoor
namespace Go.Proofs.YtcngoccnfmhhnaaGreatDoor
open Go.Ex

abbrev Tabs (w : World) : Prop := Lib.Utf8Tabs 2 3 w
theorem Tabs.to {w w' : World} (h : Tabs w) (hx : Ext w w') : Tabs w' := Utf8Tabs_below h hx
theorem cell_kp {b : Nat} {w w' : World} {a : Addr} {u : Value} (h : w.cell? a = some u) (k : Kp b w w') (hne : a.block ≠ b) : w'.cell? a = some u := by
  have hlt := World.block_lt_of_cell? w a h
  have := k.block a.block hlt hne
  unfold World.cell? at h ⊢
  rw [this]; exact h
theorem Tabs.kp {w w' : World} {b : Nat} (h : Tabs w) (hx : Kp b w w') (hb : 3 < b) : Tabs w' := by
  have h0 : (2 : Nat) ≠ b := by omega
  have h1 : (3 : Nat) ≠ b := by omega
  exact ⟨fun c hc => cell_kp (h.1 c hc) hx h0, fun i hi => ⟨cell_kp (h.2 i hi).1 hx h1, cell_kp (h.2 i hi).2 hx h1⟩⟩
theorem Tabs.lt {w : World} (h : Tabs w) : 3 < w.heap.size := World.block_lt_of_cell? w _ (h.2 0 (by omega)).1

/-- a reader at place i -/
structure Rd (w : World) (rb : Nat) (s : List UInt8) (i : Nat) : Prop where
  bx : Bx w rb [S s, .int .i64 i]
  tabs : Tabs w
  hb : 3 < rb
  hi : i ≤ s.length
  hs : s.length ≤ 1000000000
theorem Rd.to {w w' : World} {rb : Nat} {s : List UInt8} {i : Nat} (h : Rd w rb s i) (hx : Ext w w') : Rd w' rb s i := ⟨h.bx.to hx, h.tabs.to hx, h.hb, h.hi, h.hs⟩
theorem Rd.kp {w w' : World} {rb c : Nat} {s : List UInt8} {i : Nat} (h : Rd w rb s i) (hx : Kp c w w') (hc : rb < c) : Rd w' rb s i := ⟨h.bx.kp hx (by omega), h.tabs.kp hx (by have := h.hb; omega), h.hb, h.hi, h.hs⟩
theorem Rd.at_ {w w' : World} {rb : Nat} {s : List UInt8} {i : Nat} (h : Rd w rb s i) (hb : Bx w' rb [S s, .int .i64 ((i : Int) + 1)]) (hw : Wr rb w w') (hi : i < s.length) : Rd w' rb s (i + 1) :=
  ⟨by simpa using hb, h.tabs.kp hw.kp h.hb, h.hb, hi, h.hs⟩
/-- the panic of a refusal -/
def Bad (ch : List PanicEntry) : Prop := ∃ a e : Int, e ≠ 0 ∧ ch = [{ v := .iface 107 (.agg ⟨[.int .i64 a, .int .i64 e]⟩), recovered := false }]

theorem fail_ok (rb : Nat) (a e : Int) (w : World) (he : e ≠ 0) :
    RetP Tryz.prog 94 ⟨[ptr rb, .int .i64 a, .int .i64 e]⟩ w (fun _ _ => False) (fun ch w' => Bad ch ∧ w' = w) := by
  refine ret_of_GP Tryz.func94 rfl Tryz.ntmps94 rfl ?_
  simp only [argEnv]
  refine rn ?_
  refine sIf tb ?_
  refine sPanic (px_P rfl rfl ⟨⟨a, e, he, rfl⟩, rfl⟩)
theorem blank_ok (c : UInt8) (w : World) : Ret Tryz.prog 93 ⟨[U c]⟩ w fun r w' => r = .bool (blB c) ∧ Ext w w' := by
  refine ret_of_G Tryz.func93 rfl Tryz.ntmps93 rfl ?_
  simp only [argEnv]
  refine rn ?_
  refine G.ret1 rfl rfl rfl rfl ?_
  refine ⟨?_, Ext.refl _⟩
  unfold blB
  congr 1
  rw [Bool.eq_iff_iff]
  simp only [Bool.or_eq_true, decide_eq_true_eq]
  omega
theorem is_ok (b : UInt8) (w : World) (rb : Nat) (s : List UInt8) (i : Nat) (h : Rd w rb s i) :
    Ret Tryz.prog 140 ⟨[ptr rb, U b]⟩ w fun r w' => r = .bool (decide ((s.drop i).head? = some b)) ∧ Ext w w' := by
  have hbx := h.bx
  refine ret_of_G Tryz.func140 rfl Tryz.ntmps140 rfl ?_
  simp only [argEnv]
  refine rn ?_
  refine G.regionM [(0, true), (1, true), (2, true), (3, true), (4, true), (5, true), (6, true), (7, true), (8, true), (9, true), (10, true), (11, true), (12, true), (13, true), (14, true), (15, true), (16, true), (17, true), (18, true), (19, true), (20, true), (21, true), (22, true), (23, true)] (Ext w) (by kernel_rfl) (by kernel_rfl) rfl mixed (Ext.drew w) rfl ?_
  refine rd ?_
  refine dBs tb i ?_ (hj := fun hc => ⟨rfl, by have := of_decide_eq_true hc; omega⟩)
  refine rd ?_
  refine GM.nil ?_
  refine rn ?_
  refine G.ret1 rfl rfl rfl rfl ?_
  refine ⟨?_, Ext.drew w⟩
  rw [head_at]
  congr 1
  rw [Bool.eq_iff_iff]
  simp only [Bool.and_eq_true, decide_eq_true_eq, ← UInt8.toNat_inj]
  omega
theorem blanks_ok (w : World) (rb : Nat) (s : List UInt8) (i : Nat) (h : Rd w rb s i) :
    Ret Tryz.prog 58 ⟨[ptr rb]⟩ w fun r w' => r = .bool (decide (0 < bls (s.drop i))) ∧ Rd w' rb s (i + bls (s.drop i)) ∧ Kp rb w w' := by
  have hbx := h.bx
  have hi0 := h.hi
  have hs := h.hs
  refine ret_of_G Tryz.func58 rfl Tryz.ntmps58 rfl ?_
  simp only [argEnv]
  refine rn ?_
  refine (G.loop (fun k : Nat => [(0, none, ptr rb), (2, none, .bool false), (3, none, .int .i64 i)]) (fun k W => Rd W rb s k ∧ Kp rb w W ∧ i ≤ k ∧ bls (s.drop i) = (k - i) + bls (s.drop k)) (fun k => s.length - k) i (by repeat (first | exact Sub.nil _ | refine Sub.cons rfl ?_)) ⟨h, Kp.refl _ _, Nat.le_refl _, by omega⟩ ?_)
  clear hbx
  rintro k W ⟨hr, hk, hik, he⟩
  have hbx := hr.bx
  have hkl := hr.hi
  refine rn ?_
  refine G.regionM [(0, true), (1, true), (2, true), (3, true), (4, true), (5, true), (6, true), (7, true), (8, true), (9, true), (10, true), (11, true), (12, true), (13, true), (14, true), (15, true), (16, true), (17, true), (18, true), (19, true), (20, false), (21, true)] (Ext W) (by kernel_rfl) (by kernel_rfl) rfl mixed (Ext.drew W) rfl ?_
  refine rd ?_
  refine dBs tb k ?_ (hj := fun hc => ⟨rfl, by have := of_decide_eq_true hc; omega⟩)
  refine rd ?_
  refine GM.eff (Step.callX rfl rfl (by repeat (first | exact OpL.nil | refine OpL.cons (Op1.of rfl (by first | exact fun _ => rfl | exact fun h => h | exact fun h => bL h | exact fun h => bL (bL h) | exact fun h => bL (bL (bL h)))) ?_)) c93 rfl (fun hc => blank_ok _ _) ?_)
  intro W2 hx2
  have hx2 := (Ext.drew W).trans hx2
  refine ⟨hx2, ?_⟩
  refine rd ?_
  refine GM.nil ?_
  have hr2 := hr.to hx2
  have hbx := hr2.bx
  by_cases hlt : k < s.length
  · rw [decide_eq_true (show (k : Int) < s.length by omega)]
    rw [drop_at hlt] at he
    simp only [bls] at he
    cases hb : blB (s.getD k 0)
    · rw [hb] at he
      simp only [Bool.false_eq_true, if_false] at he
      refine rn ?_
      refine G.ret1 rfl rfl rfl rfl ?_
      refine ⟨?_, ?_, hk.trans hx2.kp⟩
      · congr 1
        rw [decide_eq_decide]; omega
      · rw [show i + bls (s.drop i) = k by omega]; exact hr2
    · rw [hb] at he
      simp only [if_true] at he
      refine rn ?_
      refine sAd tb ?_
      refine rn ?_
      refine sSf tb (fun W3 hb3 hw3 => ?_)
      refine rn ?_
      exact G.lp (x := k) (k + 1) (by repeat (first | exact Sub.nil _ | refine Sub.cons rfl ?_)) ⟨hr2.at_ hb3 hw3 hlt, (hk.trans hx2.kp).trans hw3.kp, by omega, by omega⟩ (by omega)
  · rw [decide_eq_false (show ¬ (k : Int) < s.length by omega)]
    have hle := hr.hi
    rw [drop_no hlt] at he
    simp only [bls] at he
    refine rn ?_
    refine G.ret1 rfl rfl rfl rfl ?_
    refine ⟨?_, ?_, hk.trans hx2.kp⟩
    · congr 1
      rw [decide_eq_decide]; omega
    · rw [show i + bls (s.drop i) = k by omega]; exact hr2
theorem must_ok (b : UInt8) (w : World) (rb : Nat) (s : List UInt8) (i : Nat) (h : Rd w rb s i) :
    RetP Tryz.prog 159 ⟨[ptr rb, U b]⟩ w (fun _ w' => mustP b (s.drop i) = some (s.drop (i + 1)) ∧ Rd w' rb s (i + 1) ∧ Kp rb w w') (fun ch w' => mustP b (s.drop i) = none ∧ Bad ch ∧ Kp rb w w') := by
  have hs := h.hs
  have hi := h.hi
  refine ret_of_GP Tryz.func159 rfl Tryz.ntmps159 rfl ?_
  simp only [argEnv]
  refine rn ?_
  refine sCall c140 (is_ok b w rb s i h) ?_
  rintro _ W ⟨rfl, hx⟩
  have hr := h.to hx
  have hbx := hr.bx
  refine rn ?_
  first | refine G.condD rfl (fun hc => ?_) (fun hc => ?_) | refine G.condN rfl (fun hc => ?_) (fun hc => ?_) | refine G.cond rfl (fun hc => ?_) (fun hc => ?_)
  · have hm : mustP b (s.drop i) = none := by
      cases hd : s.drop i with
      | nil => rfl
      | cons c l => rw [hd] at hc; simp only [mustP]; rw [if_neg (by simpa using hc)]
    refine rn ?_
    refine sCallP c94 (fail_ok rb i 8 W (by decide)) (fun ch w' hz => px_P rfl rfl ?_) ?_
    · exact ⟨hm, hz.1, by rw [hz.2]; exact hx.kp⟩
    · rintro _ _ ⟨⟩
  · have hlt : i < s.length := by
      by_cases hlt : i < s.length
      · exact hlt
      · rw [drop_no hlt] at hc; simp at hc
    have hm : mustP b (s.drop i) = some (s.drop (i + 1)) := by
      rw [drop_at hlt] at hc ⊢
      simp only [mustP]; rw [if_pos (by simpa using hc)]
    refine rn ?_
    refine sAd tb ?_
    refine rn ?_
    refine sSf tb (fun W3 hb3 hw3 => ?_)
    refine rn ?_
    refine G.endP0 rfl rfl rfl ?_
    exact ⟨hm, hr.at_ hb3 hw3 hlt, hx.kp.trans hw3.kp⟩
theorem name_ok (colons : Bool) (w : World) (rb : Nat) (s : List UInt8) (i : Nat) (h : Rd w rb s i) :
    RetP Tryz.prog 60 ⟨[ptr rb, .bool colons]⟩ w (fun r w' => ∃ n, nameP colons (s.drop i) = some (n, s.drop (i + n.length)) ∧ r = S n ∧ Rd w' rb s (i + n.length) ∧ Kp rb w w') (fun ch w' => nameP colons (s.drop i) = none ∧ Bad ch ∧ Kp rb w w') := by
  have hbx := h.bx
  have hi0 := h.hi
  have hs := h.hs
  refine ret_of_GP Tryz.func60 rfl Tryz.ntmps60 rfl ?_
  simp only [argEnv]
  try (first | refine gl tb ?_ | refine gg tb ?_ | refine ll tb ?_ | refine lg tb ?_)
  refine sFa tb ?_
  try (first | refine gl tb ?_ | refine gg tb ?_ | refine ll tb ?_ | refine lg tb ?_)
  refine sLd tb ?_
  refine lgN tb 3 ?_
  refine G.join (fun k : Nat => [(0, none, ptr rb), (1, none, .bool colons), (4, none, S []), (5, none, .int .i64 i)]) (fun k W => Rd W rb s k ∧ Kp rb w W ∧ i ≤ k ∧ nameN colons true (s.drop i) = k - i) ?_ ?_
  · rintro k W ⟨hr, hk, hik, he⟩
    have hbx := hr.bx
    have hkl := hr.hi
    refine rn ?_
    first | refine G.condD rfl (fun hc => ?_) (fun hc => ?_) | refine G.condN rfl (fun hc => ?_) (fun hc => ?_) | refine G.cond rfl (fun hc => ?_) (fun hc => ?_)
    · refine rn ?_
      refine sCallP c94 (fail_ok rb k 8 W (by decide)) (fun ch w' hz => px_P rfl rfl ?_) ?_
      · refine ⟨?_, hz.1, by rw [hz.2]; exact hk⟩
        unfold nameP; rw [if_pos (by omega)]
      · rintro _ _ ⟨⟩
    · refine rn ?_
      refine G.regionM [(0, true), (1, true), (2, true), (3, true), (4, true), (5, true), (6, true), (7, true), (8, true), (9, true), (10, true)] (Ext W) (by kernel_rfl) (by kernel_rfl) rfl mixed (Ext.drew W) rfl ?_
      refine rd ?_
      refine GM.read (fun w' hS => Step.sliceS tb i k rfl (Op1.of rfl (by first | exact fun _ => rfl | exact fun h => h | exact fun h => bL h | exact fun h => bL (bL h) | exact fun h => bL (bL (bL h)))) (Op1.of rfl (by first | exact fun _ => rfl | exact fun h => h | exact fun h => bL h | exact fun h => bL (bL h) | exact fun h => bL (bL (bL h)))) (Op1.of rfl (by first | exact fun _ => rfl | exact fun h => h | exact fun h => bL h | exact fun h => bL (bL h) | exact fun h => bL (bL (bL h)))) rfl (fun _ => ⟨rfl, rfl, by omega, by omega⟩) rfl ⟨rfl, rfl⟩) rfl rfl ?_
      refine rd ?_
      refine GM.nil ?_
      refine rn ?_
      refine G.retP1 rfl rfl rfl rfl ?_
      have hl : ((s.drop i).take (k - i)).length = k - i := by rw [List.length_take, List.length_drop]; omega
      refine ⟨(s.drop i).take (k - i), ?_, rfl, ?_, hk.trans (Ext.drew W).kp⟩
      · unfold nameP
        rw [if_neg (by omega), he, hl, List.drop_drop]
      · rw [hl, show i + (k - i) = k by omega]
        exact hr.to (Ext.drew W)
  · refine rn ?_
    refine (G.loop (fun k : Nat => [(0, none, ptr rb), (1, none, .bool colons), (4, none, S []), (5, none, .int .i64 i)]) (fun k W => Rd W rb s k ∧ Kp rb w W ∧ i ≤ k ∧ nameN colons true (s.drop i) = (k - i) + nameN colons (decide (k = i)) (s.drop k)) (fun k => s.length - k) i (by repeat (first | exact Sub.nil _ | refine Sub.cons rfl ?_)) ⟨h, Kp.refl _ _, Nat.le_refl _, by simp⟩ ?_)
    clear hbx
    rintro k W ⟨hr, hk, hik, he⟩
    have hbx := hr.bx
    have hkl := hr.hi
    refine rn ?_
    refine G.regionM [(0, true), (1, true), (2, true), (3, true), (4, true), (5, true), (6, true), (7, true), (8, true), (9, true)] (Ext W) (by kernel_rfl) (by kernel_rfl) rfl mixed (Ext.drew W) rfl ?_
    refine rd ?_
    refine GM.nil ?_
    first | refine G.condD rfl (fun hc => ?_) (fun hc => ?_) | refine G.condN rfl (fun hc => ?_) (fun hc => ?_) | refine G.cond rfl (fun hc => ?_) (fun hc => ?_)
    · have hlt : k < s.length := by omega
      refine rn ?_
      refine G.regionM [(0, true), (1, true), (2, true), (3, true), (4, true), (5, true), (6, true), (7, true), (8, true), (9, true)] (Ext W.drew) (by kernel_rfl) (by kernel_rfl) rfl mixed (Ext.drew W.drew) rfl ?_
      refine rd ?_
      refine dBs tb k ?_ (hj := fun _ => ⟨rfl, by omega⟩)
      refine rd ?_
      refine GM.nil ?_
      refine rn ?_
      refine G.cond rfl (fun hc => ?_) (fun hc => ?_)
      · have hno : (letB colons (s.getD k 0) || (!decide (k = i) && Nm.isD (s.getD k 0))) = false := by
          cases colons <;> simp [letB, Nm.isD] at hc ⊢ <;> omega
        rw [drop_at hlt] at he
        simp only [nameN, hno, Bool.false_eq_true, if_false] at he
        refine rn ?_
        exact G.met k (by repeat (first | exact Sub.nil _ | refine Sub.cons rfl ?_)) ⟨hr.to (Ext.drew W |>.trans (Ext.drew _)), hk.trans ((Ext.drew W).trans (Ext.drew _)).kp, hik, by omega⟩
      · have hyes : (letB colons (s.getD k 0) || (!decide (k = i) && Nm.isD (s.getD k 0))) = true := by
          cases colons <;> simp [letB, Nm.isD] at hc ⊢ <;> omega
        rw [drop_at hlt] at he
        simp only [nameN, hyes, if_true] at he
        have hx2 := (Ext.drew W).trans (Ext.drew W.drew)
        have hr2 := hr.to hx2
        have hbx := hr2.bx
        refine rn ?_
        refine sAd tb ?_
        refine rn ?_
        refine sSf tb (fun W3 hb3 hw3 => ?_)
        refine rn ?_
        exact G.lp (x := k) (k + 1) (by repeat (first | exact Sub.nil _ | refine Sub.cons rfl ?_)) ⟨hr2.at_ hb3 hw3 hlt, (hk.trans hx2.kp).trans hw3.kp, by omega, by rw [decide_eq_false (show ¬ k + 1 = i by omega)]; omega⟩ (by omega)
    · have hlt : ¬ k < s.length := by omega
      rw [drop_no hlt] at he
      simp only [nameN] at he
      refine rn ?_
      exact G.met k (by repeat (first | exact Sub.nil _ | refine Sub.cons rfl ?_)) ⟨hr.to (Ext.drew W), hk.trans (Ext.drew W).kp, hik, by omega⟩
theorem token_ok (w : World) (rb : Nat) (s : List UInt8) (i : Nat) (h : Rd w rb s i) :
    RetP Tryz.prog 59 ⟨[ptr rb]⟩ w (fun r w' => ∃ n, tokP (s.drop i) = some (n, s.drop (i + n.length)) ∧ r = .tuple ⟨[S n, .int .i64 i]⟩ ∧ Rd w' rb s (i + n.length) ∧ Kp rb w w') (fun ch w' => tokP (s.drop i) = none ∧ Bad ch ∧ Kp rb w w') := by
  have hbx := h.bx
  have hi0 := h.hi
  have hs := h.hs
  refine ret_of_GP Tryz.func59 rfl Tryz.ntmps59 rfl ?_
  simp only [argEnv]
  try (first | refine gl tb ?_ | refine gg tb ?_ | refine ll tb ?_ | refine lg tb ?_)
  refine sFa tb ?_
  try (first | refine gl tb ?_ | refine gg tb ?_ | refine ll tb ?_ | refine lg tb ?_)
  refine sLd tb ?_
  refine lgN tb 3 ?_
  refine G.join (fun k : Nat => [(0, none, ptr rb), (2, none, S []), (3, none, .int .i64 0), (4, none, .int .i64 i)]) (fun k W => Rd W rb s k ∧ Kp rb w W ∧ i ≤ k ∧ tokN (s.drop i) = k - i) ?_ ?_
  · rintro k W ⟨hr, hk, hik, he⟩
    have hbx := hr.bx
    have hkl := hr.hi
    refine rn ?_
    first | refine G.condD rfl (fun hc => ?_) (fun hc => ?_) | refine G.condN rfl (fun hc => ?_) (fun hc => ?_) | refine G.cond rfl (fun hc => ?_) (fun hc => ?_)
    · refine rn ?_
      refine sCallP c94 (fail_ok rb k 8 W (by decide)) (fun ch w' hz => px_P rfl rfl ?_) ?_
      · refine ⟨?_, hz.1, by rw [hz.2]; exact hk⟩
        unfold tokP; rw [if_pos (by omega)]
      · rintro _ _ ⟨⟩
    · refine rn ?_
      refine G.regionM [(0, true), (1, true), (2, true), (3, true), (4, true), (5, true), (6, true), (7, true), (8, true), (9, true), (10, true), (11, true), (12, true)] (Ext W) (by kernel_rfl) (by kernel_rfl) rfl mixed (Ext.drew W) rfl ?_
      refine rd ?_
      refine GM.read (fun w' hS => Step.sliceS tb i k rfl (Op1.of rfl (by first | exact fun _ => rfl | exact fun h => h | exact fun h => bL h | exact fun h => bL (bL h) | exact fun h => bL (bL (bL h)))) (Op1.of rfl (by first | exact fun _ => rfl | exact fun h => h | exact fun h => bL h | exact fun h => bL (bL h) | exact fun h => bL (bL (bL h)))) (Op1.of rfl (by first | exact fun _ => rfl | exact fun h => h | exact fun h => bL h | exact fun h => bL (bL h) | exact fun h => bL (bL (bL h)))) rfl (fun _ => ⟨rfl, rfl, by omega, by omega⟩) rfl ⟨rfl, rfl⟩) rfl rfl ?_
      refine rd ?_
      refine GM.nil ?_
      refine rn ?_
      refine G.retP2 rfl rfl rfl rfl rfl ?_
      have hl : ((s.drop i).take (k - i)).length = k - i := by rw [List.length_take, List.length_drop]; omega
      refine ⟨(s.drop i).take (k - i), ?_, rfl, ?_, hk.trans (Ext.drew W).kp⟩
      · unfold tokP
        rw [if_neg (by omega), he, hl, List.drop_drop]
      · rw [hl, show i + (k - i) = k by omega]
        exact hr.to (Ext.drew W)
  · refine rn ?_
    refine (G.loop (fun k : Nat => [(0, none, ptr rb), (2, none, S []), (3, none, .int .i64 0), (4, none, .int .i64 i)]) (fun k W => Rd W rb s k ∧ Kp rb w W ∧ i ≤ k ∧ tokN (s.drop i) = (k - i) + tokN (s.drop k)) (fun k => s.length - k) i (by repeat (first | exact Sub.nil _ | refine Sub.cons rfl ?_)) ⟨h, Kp.refl _ _, Nat.le_refl _, by omega⟩ ?_)
    clear hbx
    rintro k W ⟨hr, hk, hik, he⟩
    have hbx := hr.bx
    have hkl := hr.hi
    refine rn ?_
    refine G.regionM [(0, true), (1, true), (2, true), (3, true), (4, true), (5, true), (6, true), (7, true), (8, true), (9, true), (10, true), (11, true), (12, true), (13, true), (14, true), (15, true), (16, true), (17, true), (18, true), (19, true), (20, false), (21, true), (22, true)] (Ext W) (by kernel_rfl) (by kernel_rfl) rfl mixed (Ext.drew W) rfl ?_
    refine rd ?_
    refine dBs tb k ?_ (hj := fun hc => ⟨rfl, by have := of_decide_eq_true hc; omega⟩)
    refine rd ?_
    refine GM.eff (Step.callX rfl rfl (by repeat (first | exact OpL.nil | refine OpL.cons (Op1.of rfl (by first | exact fun _ => rfl | exact fun h => h | exact fun h => bL h | exact fun h => bL (bL h) | exact fun h => bL (bL (bL h)))) ?_)) c93 rfl (fun hc => blank_ok _ _) ?_)
    intro W2 hx2
    have hx2 := (Ext.drew W).trans hx2
    refine ⟨hx2, ?_⟩
    refine rd ?_
    refine GM.nil ?_
    have hr2 := hr.to hx2
    have hbx := hr2.bx
    by_cases hlt : k < s.length
    · rw [decide_eq_true (show (k : Int) < s.length by omega)]
      rw [drop_at hlt] at he
      simp only [tokN] at he
      cases hb : blB (s.getD k 0)
      · rw [hb] at he
        simp only [Bool.false_eq_true, if_false] at he
        refine rn ?_
        refine sAd tb ?_
        refine rn ?_
        refine sSf tb (fun W3 hb3 hw3 => ?_)
        refine rn ?_
        exact G.lp (x := k) (k + 1) (by repeat (first | exact Sub.nil _ | refine Sub.cons rfl ?_)) ⟨hr2.at_ hb3 hw3 hlt, (hk.trans hx2.kp).trans hw3.kp, by omega, by omega⟩ (by omega)
      · rw [hb] at he
        simp only [if_true] at he
        refine rn ?_
        exact G.met k (by repeat (first | exact Sub.nil _ | refine Sub.cons rfl ?_)) ⟨hr2, hk.trans hx2.kp, hik, by omega⟩
    · rw [decide_eq_false (show ¬ (k : Int) < s.length by omega)]
      have hle := hr.hi
      rw [drop_no hlt] at he
      simp only [tokN] at he
      refine rn ?_
      exact G.met k (by repeat (first | exact Sub.nil _ | refine Sub.cons rfl ?_)) ⟨hr2, hk.trans hx2.kp, hik, by omega⟩
end Go.Proofs.YtcngoccnfmhhnaaGreatDoor
end
section
namespace Go.Proofs
open Go.Shelf
def Tryz.lays167_ren : Go.Shelf.Ren := ⟨fun | 167 => 51 | 240 => 89 | 276 => 121 | n => n, fun | 37 => 22 | 70 => 90 | 72 => 92 | 75 => 94 | 76 => 95 | 164 => 167 | 80 => 98 | 127 => 133 | n => n, fun | n => n⟩
theorem Tryz.lays167 : Go.Proofs.Lays.n167 Tryz.prog Tryz.lays167_ren := {
  mixed := by kernel_rfl
  f167 := Tryz.func51.trans (congrArg some (by kernel_rfl))
  f240 := Tryz.func89.trans (congrArg some (by kernel_rfl))
  f276 := Tryz.func121.trans (congrArg some (by kernel_rfl))
  t0 := Tryz.underlying0
  a0 := Tryz.isAgg0
  z0 := Tryz.sizeOf0
  v0 := Tryz.zeroValue0
  t4 := Tryz.underlying4
  a4 := Tryz.isAgg4
  z4 := Tryz.sizeOf4
  v4 := Tryz.zeroValue4
  t5 := Tryz.underlying5
  a5 := Tryz.isAgg5
  z5 := Tryz.sizeOf5
  v5 := Tryz.zeroValue5
  t9 := Tryz.underlying9
  a9 := Tryz.isAgg9
  z9 := Tryz.sizeOf9
  v9 := Tryz.zeroValue9
  t20 := Tryz.underlying20
  a20 := Tryz.isAgg20
  z20 := Tryz.sizeOf20
  v20 := Tryz.zeroValue20
  t37 := Tryz.underlying22
  a37 := Tryz.isAgg22
  z37 := Tryz.sizeOf22
  v37 := Tryz.zeroValue22
  t70 := Tryz.underlying90
  a70 := Tryz.isAgg90
  z70 := Tryz.sizeOf90
  v70 := Tryz.zeroValue90
  t72 := Tryz.underlying92
  a72 := Tryz.isAgg92
  z72 := Tryz.sizeOf92
  v72 := Tryz.zeroValue92
  t75 := Tryz.underlying94
  a75 := Tryz.isAgg94
  z75 := Tryz.sizeOf94
  v75 := Tryz.zeroValue94
  t164 := Tryz.underlying167
  a164 := Tryz.isAgg167
  z164 := Tryz.sizeOf167
  v164 := Tryz.zeroValue167 }
theorem Tryz.Builder_Extra_167 : Builder.Extra Tryz.prog Tryz.lays167_ren := {
  sizeBuilder := by kernel_rfl
  liesBuilder := by kernel_rfl
  t5 := Tryz.underlying5
  a5 := Tryz.isAgg5
  z5 := Tryz.sizeOf5
  v5 := Tryz.zeroValue5
  infoByte := by kernel_rfl
  cellsByte := by kernel_rfl
  sizeByte := by kernel_rfl
  neB5 := by decide }
end Go.Proofs
end
section
namespace Go.Proofs
open Go.Shelf
def Tryz.laysValid_ren : Go.Shelf.Ren := ⟨fun | 196 => 63 | 259 => 96 | n => n, fun | 9 => 9 | 4 => 4 | 3 => 3 | 5 => 5 | 12 => 12 | 119 => 140 | 0 => 0 | 46 => 130 | 139 => 143 | 138 => 142 | 53 => 82 | n => n, fun | 3 => 2 | 4 => 3 | n => n⟩
theorem Tryz.laysValid : Go.Proofs.Lays.n196 Tryz.prog Tryz.laysValid_ren := {
  mixed := by kernel_rfl
  f196 := Tryz.func63.trans (congrArg some (by kernel_rfl))
  f259 := Tryz.func96.trans (congrArg some (by kernel_rfl))
  t0 := Tryz.underlying0
  a0 := Tryz.isAgg0
  z0 := Tryz.sizeOf0
  v0 := Tryz.zeroValue0
  t3 := Tryz.underlying3
  a3 := Tryz.isAgg3
  z3 := Tryz.sizeOf3
  v3 := Tryz.zeroValue3
  t4 := Tryz.underlying4
  a4 := Tryz.isAgg4
  z4 := Tryz.sizeOf4
  v4 := Tryz.zeroValue4
  t5 := Tryz.underlying5
  a5 := Tryz.isAgg5
  z5 := Tryz.sizeOf5
  v5 := Tryz.zeroValue5
  t9 := Tryz.underlying9
  a9 := Tryz.isAgg9
  z9 := Tryz.sizeOf9
  v9 := Tryz.zeroValue9
  t12 := Tryz.underlying12
  a12 := Tryz.isAgg12
  z12 := Tryz.sizeOf12
  v12 := Tryz.zeroValue12
  t46 := Tryz.underlying130
  a46 := Tryz.isAgg130
  z46 := Tryz.sizeOf130
  v46 := Tryz.zeroValue130
  t53 := Tryz.underlying82
  a53 := Tryz.isAgg82
  z53 := Tryz.sizeOf82
  v53 := Tryz.zeroValue82
  t119 := Tryz.underlying140
  a119 := Tryz.isAgg140
  z119 := Tryz.sizeOf140
  t138 := Tryz.underlying142
  a138 := Tryz.isAgg142
  z138 := Tryz.sizeOf142
  v138 := Tryz.zeroValue142
  t139 := Tryz.underlying143
  a139 := Tryz.isAgg143
  z139 := Tryz.sizeOf143
  v139 := Tryz.zeroValue143
  g3 := by kernel_rfl
  g4 := by kernel_rfl }
def Tryz.lays169_ren : Go.Shelf.Ren := ⟨fun | 169 => 52 | n => n, fun | 70 => 90 | 9 => 9 | 0 => 0 | 72 => 92 | 37 => 22 | 127 => 133 | 3 => 3 | 5 => 5 | n => n, fun | n => n⟩
theorem Tryz.lays169 : Go.Proofs.Lays.n169 Tryz.prog Tryz.lays169_ren := {
  mixed := by kernel_rfl
  f169 := Tryz.func52.trans (congrArg some (by kernel_rfl))
  t0 := Tryz.underlying0
  a0 := Tryz.isAgg0
  z0 := Tryz.sizeOf0
  v0 := Tryz.zeroValue0
  t3 := Tryz.underlying3
  a3 := Tryz.isAgg3
  z3 := Tryz.sizeOf3
  v3 := Tryz.zeroValue3
  t9 := Tryz.underlying9
  a9 := Tryz.isAgg9
  z9 := Tryz.sizeOf9
  v9 := Tryz.zeroValue9
  t37 := Tryz.underlying22
  a37 := Tryz.isAgg22
  z37 := Tryz.sizeOf22
  v37 := Tryz.zeroValue22
  t70 := Tryz.underlying90
  a70 := Tryz.isAgg90
  z70 := Tryz.sizeOf90
  v70 := Tryz.zeroValue90
  t72 := Tryz.underlying92
  a72 := Tryz.isAgg92
  z72 := Tryz.sizeOf92
  v72 := Tryz.zeroValue92
  t127 := Tryz.underlying133
  a127 := Tryz.isAgg133
  z127 := Tryz.sizeOf133
  v127 := Tryz.zeroValue133 }
theorem Tryz.Builder_Extra_169 : Builder.Extra Tryz.prog Tryz.lays169_ren := {
  sizeBuilder := by kernel_rfl
  liesBuilder := by kernel_rfl
  t5 := Tryz.underlying5
  a5 := Tryz.isAgg5
  z5 := Tryz.sizeOf5
  v5 := Tryz.zeroValue5
  infoByte := by kernel_rfl
  cellsByte := by kernel_rfl
  sizeByte := by kernel_rfl
  neB5 := by decide }
def Tryz.lays99_ren : Go.Shelf.Ren := ⟨fun | 99 => 177 | 206 => 193 | n => n, fun | 9 => 9 | 4 => 4 | 3 => 3 | n => n, fun | n => n⟩
theorem Tryz.lays99 : Go.Proofs.Lays.n99 Tryz.prog Tryz.lays99_ren := {
  mixed := by kernel_rfl
  f99 := Tryz.func177.trans (congrArg some (by kernel_rfl))
  f206 := Tryz.func193.trans (congrArg some (by kernel_rfl))
  t3 := Tryz.underlying3
  a3 := Tryz.isAgg3
  z3 := Tryz.sizeOf3
  v3 := Tryz.zeroValue3
  t4 := Tryz.underlying4
  a4 := Tryz.isAgg4
  z4 := Tryz.sizeOf4
  v4 := Tryz.zeroValue4
  t9 := Tryz.underlying9
  a9 := Tryz.isAgg9
  z9 := Tryz.sizeOf9
  v9 := Tryz.zeroValue9 }
end Go.Proofs
end
section
open Go Go.Vg Go.RowKit Go.Proofs Go.Proofs.YtcngoccnfmhhnaaGreatDoor
namespace Go.Proofs.YtcngoccnfmhhnaaGreatDoor
open Go.Ex

def escB : List UInt8 := [92, 34, 110]
theorem escaped_ok (w : World) (rb : Nat) (s : List UInt8) (i : Nat) (h : Rd w rb s i) :
    RetP Tryz.prog 176 ⟨[ptr rb]⟩ w (fun r w' => ∃ b, escP (s.drop i) = some (b, s.drop (i + 1)) ∧ r = U b ∧ Rd w' rb s (i + 1) ∧ Kp rb w w') (fun ch w' => escP (s.drop i) = none ∧ Bad ch ∧ Kp rb w w') := by
  have hs := h.hs
  have hi := h.hi
  refine ret_of_GP Tryz.func176 rfl Tryz.ntmps176 rfl ?_
  simp only [argEnv]
  refine rn ?_
  refine sBs' tb (bysC escB) ?_ (hkl := bysC_k _)
  intro v1 w1 ho1 hs1 hx1
  refine GL.cons (Step.markS tb rfl (Op1.of rfl (by first | exact fun _ => rfl | exact fun h => h | exact fun h => bL h | exact fun h => bL (bL h) | exact fun h => bL (bL (bL h)))) rfl rfl ho1 (by decide) rfl ?_)
  intro w2 hv2 hx2
  have hx02 : Ext w w2 := Below.trans hx1 hx2
  have hv2' : Sli w2 v1 1 (bysC escB) := hv2
  clear ho1 hs1 hx1 hx2
  refine rn ?_
  refine (G.loop (fun j : Nat => [(0, none, ptr rb), (2, none, U 0), (6, none, v1), (7, none, .int .i64 3), (8, none, .int .i64 j)]) (fun j W => Ext w2 W ∧ j ≤ 3 ∧ ∀ m, m < j → (s.drop i).head? ≠ some (escB.getD m 0)) (fun j => 3 - j) 0 (by repeat (first | exact Sub.nil _ | refine Sub.cons rfl ?_)) ⟨Ext.refl _, by omega, by omega⟩ ?_)
  rintro j W ⟨hx, hj, hno⟩
  have hx0 := hx02.trans hx
  have hr := h.to hx0
  have hv := hv2'.to hx
  clear hv2 hv2' hx02
  refine rn ?_
  first | refine G.condD rfl (fun hc => ?_) (fun hc => ?_) | refine G.condN rfl (fun hc => ?_) (fun hc => ?_) | refine G.cond rfl (fun hc => ?_) (fun hc => ?_)
  · have hj3 : j < 3 := by omega
    obtain ⟨c, hce⟩ : ∃ c, c = escB.getD j 0 := ⟨_, rfl⟩
    have hget : (bysC escB)[j]? = some [U c] := by rw [hce]; exact bysC_get (by simpa [escB] using hj3)
    have hl3 : (bysC escB).length = 3 := rfl
    try (first | refine gl tb ?_ | refine gg tb ?_ | refine ll tb ?_ | refine lg tb ?_); repeat ((first | refine G.condT rfl ?_ | refine G.condF rfl ?_ | refine sFa tb ?_ | refine sLd tb ?_ | refine sLa tb ?_ | refine sLen tb ?_ | refine sFd tb ?_ | refine sBd tb ?_ | refine sIa tb j ?_); try (first | refine gl tb ?_ | refine gg tb ?_ | refine ll tb ?_ | refine lg tb ?_))
    refine sCall c140 (is_ok c W rb s i hr) ?_
    rintro _ W2 ⟨rfl, hx2⟩
    have hr2 := hr.to hx2
    have hbx := hr2.bx
    refine rn ?_
    first | refine G.condD rfl (fun hc => ?_) (fun hc => ?_) | refine G.condN rfl (fun hc => ?_) (fun hc => ?_) | refine G.cond rfl (fun hc => ?_) (fun hc => ?_)
    · have hlt : i < s.length := by
        by_cases hlt : i < s.length
        · exact hlt
        · rw [drop_no hlt] at hc; simp at hc
      have hcb : s.getD i 0 = c := by
        rw [drop_at hlt] at hc; simpa using hc
      refine rn ?_
      refine sAd tb ?_
      refine rn ?_
      refine sSf tb (fun W3 hb3 hw3 => ?_)
      refine rn ?_
      refine G.condD rfl (fun hn => ?_) (fun hn => ?_)
      · refine rn ?_
        refine G.retP1 rfl rfl rfl rfl ?_
        refine ⟨10, ?_, rfl, hr2.at_ hb3 hw3 hlt, (hx0.trans hx2).kp.trans hw3.kp⟩
        rw [drop_at hlt, hcb]
        have h110 : c = 110 := by rw [← UInt8.toNat_inj]; show c.toNat = 110; omega
        rw [h110]; rfl
      · refine rn ?_
        refine G.retP1 rfl rfl rfl rfl ?_
        refine ⟨c, ?_, rfl, hr2.at_ hb3 hw3 hlt, (hx0.trans hx2).kp.trans hw3.kp⟩
        rw [drop_at hlt, hcb]
        have hcc : c = 92 ∨ c = 34 := by
          rcases (show j = 0 ∨ j = 1 ∨ j = 2 by omega) with rfl | rfl | rfl
          · exact .inl hce
          · exact .inr hce
          · exfalso; apply hn; rw [hce]; rfl
        rcases hcc with rfl | rfl <;> rfl
    · have hne := hc
      refine rn ?_
      refine sAd tb ?_
      refine rn ?_
      exact G.lp (x := j) (j + 1) (by repeat (first | exact Sub.nil _ | refine Sub.cons rfl ?_)) ⟨hx.trans hx2, by omega, fun m hm => by
        by_cases e : m = j
        · subst e; rw [← hce]; exact hne
        · exact hno m (by omega)⟩ (by omega)
  · have hl3 : ((bysC escB).length : Int) = 3 := rfl
    obtain rfl : j = 3 := by omega
    have hbx := hr.bx
    refine rn ?_
    refine sCallP c94 (fail_ok rb i 8 W (by decide)) (fun ch w' hz => px_P rfl rfl ?_) ?_
    · refine ⟨?_, hz.1, by rw [hz.2]; exact hx0.kp⟩
      have e0 : (s.drop i).head? ≠ some 92 := hno 0 (by omega)
      have e1 : (s.drop i).head? ≠ some 34 := hno 1 (by omega)
      have e2 : (s.drop i).head? ≠ some 110 := hno 2 (by omega)
      cases hd : s.drop i with
      | nil => rfl
      | cons c l =>
        rw [hd] at e0 e1 e2
        simp only [List.head?_cons, ne_eq, Option.some.injEq] at e0 e1 e2
        simp only [escP]
        rw [if_neg e0, if_neg e1, if_neg e2]
    · rintro _ _ ⟨⟩
abbrev Bld (w : World) (B b : Nat) (l : List UInt8) : Prop := Lib.IsBuilder 92 5 B b (Lib.byteCells l) w
theorem wbyte_ok (B b : Nat) (l : List UInt8) (c : UInt8) (w : World) (h : Bld w B b l) (hl : l.length + 1 ≤ 140737488355328) (hB : B ≤ w.heap.size) :
    Ret Tryz.prog 51 ⟨[ptr b, U c]⟩ w fun r w' => r = .nilIface ∧ Bld w' B b (l ++ [c]) ∧ Below B w w' :=
  Calls.mono (Any.Builder_WriteByte Tryz.lays167 Tryz.Builder_Extra_167 B b (Lib.byteCells l) c.toNat w h (by rw [Lib.byteCells_length]; exact hl) hB) fun _ _ ⟨he, h1, h2⟩ =>
    ⟨_, he, rfl, .inr (by rw [Lib.byteCells_append]; exact h1), h2⟩
theorem bstr_ok (B b : Nat) (l : List UInt8) (w : World) (h : Bld w B b l) (hB : B ≤ w.heap.size) :
    Ret Tryz.prog 52 ⟨[ptr b]⟩ w fun r w' => r = S l ∧ Below B w w' :=
  Calls.mono (Any.Builder_String_any Tryz.lays169 Tryz.Builder_Extra_169 B b l w h hB) fun _ _ ⟨he, h2⟩ => ⟨_, he, rfl, h2⟩
theorem Bld.keep {w w' : World} {B b : Nat} {l : List UInt8} (h : Bld w B b l) (hx : ∀ k, B ≤ k → k < w.heap.size → w'.heap[k]? = w.heap[k]?) : Bld w' B b l := by
  have key : ∀ p, Lib.BuilderAt 92 5 B b p (Lib.byteCells l) w → Lib.BuilderAt 92 5 B b p (Lib.byteCells l) w' := by
    rintro p ⟨hB, v, hb, ⟨hl, hr⟩, hn⟩
    refine ⟨hB, v, by rw [hx b hB (Array.getElem?_eq_some_iff.1 hb).1]; exact hb, ⟨hl, ?_⟩, hn⟩
    rcases hr with h | ⟨g, cap, cur, h1, h2, h3, h4⟩
    · exact .inl h
    · exact .inr ⟨g, cap, cur, h1, h2, by rw [hx g (by omega) (Array.getElem?_eq_some_iff.1 h3).1]; exact h3, h4⟩
  rcases h with h | h
  · exact .inl (key _ h)
  · exact .inr (key _ h)
theorem Bld.ext {w w' : World} {B b : Nat} {l : List UInt8} (h : Bld w B b l) (hx : Ext w w') : Bld w' B b l := h.keep fun k _ hk => hx.block k hk
theorem Bld.kp {w w' : World} {B b c : Nat} {l : List UInt8} (h : Bld w B b l) (hx : Kp c w w') (hc : c < B) : Bld w' B b l := h.keep fun k hB hk => hx.block k hk (by omega)
abbrev BldF (w : World) (B b : Nat) (l : List UInt8) : Prop := Lib.IsBuilderF 92 5 B b (Lib.byteCells l) w
theorem bstrF_ok (B b : Nat) (l : List UInt8) (w : World) (h : BldF w B b l) (hB : B ≤ w.heap.size) :
    Ret Tryz.prog 52 ⟨[ptr b]⟩ w fun r w' => r = S l ∧ BldF w' B b l ∧ Below B w w' :=
  Calls.mono (Any.Builder_String_any_f Tryz.lays169 Tryz.Builder_Extra_169 B b l w h hB) fun _ _ ⟨he, h2⟩ => ⟨_, he, rfl, h2⟩
theorem BldF.ext {w w' : World} {B b : Nat} {l : List UInt8} (h : BldF w B b l) (hx : Ext w w') : BldF w' B b l := by
  have key : ∀ p, Lib.BuilderAtF 92 5 B b p (Lib.byteCells l) w → Lib.BuilderAtF 92 5 B b p (Lib.byteCells l) w' := by
    rintro p ⟨hB, v, hb, ⟨hl, hr⟩, hn⟩
    refine ⟨hB, v, by rw [hx.block b (Array.getElem?_eq_some_iff.1 hb).1]; exact hb, ⟨hl, ?_⟩, hn⟩
    rcases hr with h | ⟨g, cap, cur, fz, h1, h2, h3, h4⟩
    · exact .inl h
    · exact .inr ⟨g, cap, cur, fz, h1, h2, by rw [hx.block g (Array.getElem?_eq_some_iff.1 h3).1]; exact h3, h4⟩
  rcases h with h | h
  · exact .inl (key _ h)
  · exact .inr (key _ h)
theorem kp_below {b : Nat} {w w1 w2 : World} (h : Kp b w w1) (k : Below w.heap.size w1 w2) : Kp b w w2 :=
  ⟨k.os.trans h.os, k.tape.trans h.tape, k.output.trans h.output, Nat.le_trans h.size k.size, fun i hi hne => (k.block i hi).trans (h.block i hi hne)⟩
theorem Rd.below {w w' : World} {B rb : Nat} {s : List UInt8} {i : Nat} (h : Rd w rb s i) (hx : Below B w w') (hB : rb < B) : Rd w' rb s i := by
  obtain ⟨⟨t, hb⟩, ⟨ht1, ht2⟩, h3, h4, h5⟩ := h
  have cl : ∀ {a : Addr} {u : Value}, a.block < B → w.cell? a = some u → w'.cell? a = some u := by
    intro a u ha hu
    unfold World.cell? at hu ⊢
    rw [hx.block a.block ha]; exact hu
  exact ⟨⟨t, by rw [hx.block rb hB]; exact hb⟩, ⟨fun c hc => cl (by show 2 < B; omega) (ht1 c hc), fun i hi => ⟨cl (by show 3 < B; omega) (ht2 i hi).1, cl (by show 3 < B; omega) (ht2 i hi).2⟩⟩, h3, h4, h5⟩
theorem validS_ok (s : List UInt8) (w : World) (hs : s.length ≤ 9223372036854775807) (hT : Tabs w) :
    Ret Tryz.prog 63 ⟨[S s]⟩ w fun v w' => v = .bool (Lib.validD s) ∧ Ext w w' :=
  Calls.mono (Any.utf8_ValidString Tryz.laysValid ⟨⟨s⟩⟩ w hs hT) fun _ _ ⟨he, hb⟩ => ⟨_, he, rfl, hb⟩
end Go.Proofs.YtcngoccnfmhhnaaGreatDoor
end
section
open Go Go.Vg Go.RowKit Go.Proofs Go.Proofs.YtcngoccnfmhhnaaGreatDoor
namespace Go.Proofs.YtcngoccnfmhhnaaGreatDoor
open Go.Ex

theorem quoP_drop {s : List UInt8} {i : Nat} (hi : i < s.length) (h : s.getD i 0 = 34) : quoP (s.drop i) = match quoGo ((s.drop (i + 1)).length + 1) [] (s.drop (i + 1)) with
    | none => none
    | some (o, r) => if Lib.validD o then some (o, r) else none := by
  rw [drop_at hi]
  simp only [quoP]
  rw [if_pos h]
  try (generalize quoGo _ _ _ = q; rcases q with _ | ⟨o, r⟩ <;> rfl)
theorem quoP_must {s : List UInt8} {i : Nat} (h : mustP 34 (s.drop i) = none) : quoP (s.drop i) = none := by
  cases hd : s.drop i with
  | nil => rfl
  | cons c l =>
    rw [hd] at h
    simp only [mustP] at h
    simp only [quoP]
    split at h
    · cases h
    · rename_i hne
      rw [if_neg hne]
theorem must_at {b : UInt8} {s : List UInt8} {i : Nat} (h : mustP b (s.drop i) = some (s.drop (i + 1))) : i < s.length ∧ s.getD i 0 = b := by
  by_cases hlt : i < s.length
  · refine ⟨hlt, ?_⟩
    rw [drop_at hlt] at h
    simp only [mustP] at h
    split at h
    · assumption
    · cases h
  · rw [drop_no hlt] at h; cases h
theorem quoted_ok (w : World) (rb : Nat) (s : List UInt8) (i : Nat) (h : Rd w rb s i) :
    RetP Tryz.prog 160 ⟨[ptr rb]⟩ w (fun r w' => ∃ v i', quoP (s.drop i) = some (v, s.drop i') ∧ r = S v ∧ Rd w' rb s i' ∧ Kp rb w w') (fun ch w' => quoP (s.drop i) = none ∧ Bad ch ∧ Kp rb w w') := by
  have hs := h.hs
  have hi := h.hi
  have hbx := h.bx
  refine ret_of_GP Tryz.func160 rfl Tryz.ntmps160 rfl ?_
  simp only [argEnv]
  refine rn ?_
  refine sCallP c159 (must_ok 34 w rb s i h) (fun ch w' hz => px_P rfl rfl ?_) ?_
  · exact ⟨quoP_must hz.1, hz.2.1, hz.2.2⟩
  rintro _ W1 ⟨hm, hr1, hk1⟩
  obtain ⟨hlt0, hq0⟩ := must_at hm
  have hquo := quoP_drop hlt0 hq0
  clear hbx hm
  have hrb : rb < W1.heap.size := hr1.bx.lt
  refine rn ?_
  refine GL.cons (Step.allocE tb rfl rfl rfl rfl ?_)
  have hx1 : Ext W1 (W1.alloc (.cells ⟨[.pointer none, .slice none 0 0]⟩ 92)) := Ext.alloc _ _
  have hb1 : Bld (W1.alloc (.cells ⟨[.pointer none, .slice none 0 0]⟩ 92)) W1.heap.size W1.heap.size [] :=
    .inl ⟨Nat.le_refl _, _, heap_alloc_new _ _, World.ownsRow_nil _ _ _ _, by simp [Value.ownBlock]⟩
  generalize W1.alloc (.cells ⟨[.pointer none, .slice none 0 0]⟩ 92) = W2 at hx1 hb1 ⊢
  refine rn ?_
  refine (G.loop (fun k : Nat => [(0, none, ptr rb), (2, none, S []), (3, none, .int .i64 i), (4, none, ptr W1.heap.size)]) (fun k W => Rd W rb s k ∧ Kp rb W1 W ∧ ∃ out, Bld W W1.heap.size W1.heap.size out ∧ out.length ≤ k ∧ quoGo ((s.drop (i + 1)).length + 1) [] (s.drop (i + 1)) = quoGo ((s.drop k).length + 1) out (s.drop k)) (fun k => s.length - k) (i + 1) (by repeat (first | exact Sub.nil _ | refine Sub.cons rfl ?_)) ⟨hr1.to hx1, hx1.kp, [], hb1, by simp, rfl⟩ ?_)
  clear hb1 hx1
  rintro k W ⟨hr, hk, out, hb, hol, he⟩
  have hbx := hr.bx
  have hkl := hr.hi
  refine rn ?_
  refine sCall c140 (is_ok 34 W rb s k hr) ?_
  rintro _ W3 ⟨rfl, hx3⟩
  have hr3 := hr.to hx3
  have hb3 := hb.ext hx3
  have hk3 := hk.trans hx3.kp
  have hbx := hr3.bx
  refine rn ?_
  first | refine G.condD rfl (fun hc => ?_) (fun hc => ?_) | refine G.condN rfl (fun hc => ?_) (fun hc => ?_) | refine G.cond rfl (fun hc => ?_) (fun hc => ?_)
  · have hne := hc
    refine rn ?_
    refine G.regionM [(0, true), (1, true), (2, true), (3, true), (4, true), (5, true), (6, true), (7, true), (8, true), (9, true)] (Ext W3) (by kernel_rfl) (by kernel_rfl) rfl mixed (Ext.drew W3) rfl ?_
    refine rd ?_
    refine GM.nil ?_
    first | refine G.condD rfl (fun hc => ?_) (fun hc => ?_) | refine G.condN rfl (fun hc => ?_) (fun hc => ?_) | refine G.cond rfl (fun hc => ?_) (fun hc => ?_)
    · have hlt : ¬ k < s.length := by omega
      refine rn ?_
      refine sCallP c94 (fail_ok rb k 8 W3.drew (by decide)) (fun ch w' hz => px_P rfl rfl ?_) ?_
      · refine ⟨?_, hz.1, by rw [hz.2]; exact hk1.trans (hk3.trans (Ext.drew W3).kp)⟩
        rw [hquo, he, drop_no hlt]; rfl
      · rintro _ _ ⟨⟩
    · have hlt : k < s.length := by omega
      have hr4 := hr3.to (Ext.drew W3)
      have hbx := hr4.bx
      refine rn ?_
      refine G.regionM [(0, true), (1, true), (2, true), (3, true), (4, true), (5, true), (6, true), (7, true), (8, true), (9, true)] (Ext W3.drew) (by kernel_rfl) (by kernel_rfl) rfl mixed (Ext.drew W3.drew) rfl ?_
      refine rd ?_
      refine dBs tb k ?_ (hj := fun _ => ⟨rfl, by omega⟩)
      refine rd ?_
      refine GM.nil ?_
      have hx35 := (Ext.drew W3).trans (Ext.drew W3.drew)
      have hr5 := hr3.to hx35
      have hb5 := hb3.ext hx35
      have hk5 := hk3.trans hx35.kp
      have hbx := hr5.bx
      refine rn ?_
      refine sAd tb ?_
      refine rn ?_
      refine sSf tb (fun W6 hb6 hw6 => ?_)
      have hr6 := hr5.at_ hb6 hw6 hlt
      have hbl6 := hb5.kp hw6.kp hrb
      have hk6 := hk5.trans hw6.kp
      rw [drop_at hlt] at hne he
      generalize hce : s.getD k 0 = c at hne he ⊢
      have hc34 : c ≠ 34 := by simpa using hne
      refine rn ?_
      refine G.join (fun x : Nat × UInt8 => [(0, none, ptr rb), (2, none, S []), (3, none, .int .i64 i), (4, none, ptr W1.heap.size), (5, none, U x.2)]) (fun x W' => Rd W' rb s x.1 ∧ Kp rb W1 W' ∧ Bld W' W1.heap.size W1.heap.size out ∧ k < x.1 ∧ quoGo ((s.drop (i + 1)).length + 1) [] (s.drop (i + 1)) = quoGo ((s.drop x.1).length + 1) (out ++ [x.2]) (s.drop x.1)) ?_ ?_
      · rintro ⟨k', c'⟩ W7 ⟨hr7, hk7, hb7, hkk, he7⟩
        simp only at hr7 hkk he7 ⊢
        have hkl7 := hr7.hi
        refine rn ?_
        refine sCall c51 (wbyte_ok W1.heap.size W1.heap.size out c' W7 hb7 (by omega) hk7.size) ?_
        rintro _ W8 ⟨rfl, hb8, hx8⟩
        refine rn ?_
        exact G.lp (x := k) k' (by repeat (first | exact Sub.nil _ | refine Sub.cons rfl ?_)) ⟨hr7.below hx8 hrb, kp_below hk7 hx8, _, hb8, by rw [List.length_append, List.length_cons, List.length_nil]; omega, he7⟩ (by omega)
      · have hgo : quoGo ((c :: s.drop (k + 1)).length + 1) out (c :: s.drop (k + 1)) = if c = 92 then match escP (s.drop (k + 1)) with
            | none => none
            | some (b, r) => quoGo ((s.drop (k + 1)).length + 1) (out ++ [b]) r
            else quoGo ((s.drop (k + 1)).length + 1) (out ++ [c]) (s.drop (k + 1)) := by
          rw [List.length_cons]
          simp only [quoGo]
          rw [if_neg hc34]
          try (generalize escP _ = q; rcases q with _ | ⟨o, r⟩ <;> rfl)
        rw [hgo] at he
        first | refine G.condD rfl (fun hc => ?_) (fun hc => ?_) | refine G.condN rfl (fun hc => ?_) (fun hc => ?_) | refine G.cond rfl (fun hc => ?_) (fun hc => ?_)
        · have h92 : c = 92 := by rw [← UInt8.toNat_inj]; show c.toNat = 92; omega
          rw [if_pos h92] at he
          refine rn ?_
          refine sCallP c176 (escaped_ok W6 rb s (k + 1) hr6) (fun ch w' hz => px_P rfl rfl ?_) ?_
          · refine ⟨?_, hz.2.1, hk1.trans (hk6.trans hz.2.2)⟩
            rw [hquo, he, hz.1]
          · rintro _ W7 ⟨b, hes, rfl, hr7, hk7⟩
            rw [hes] at he
            simp only at he
            refine rn ?_
            refine G.met (k + 1 + 1, b) (by repeat (first | exact Sub.nil _ | refine Sub.cons rfl ?_)) ⟨hr7, hk6.trans hk7, hbl6.kp hk7 hrb, by show k < k + 1 + 1; omega, ?_⟩
            rw [he]
            show _ = quoGo ((s.drop (k + 1 + 1)).length + 1) (out ++ [b]) (s.drop (k + 1 + 1))
            have := escP_len hes
            exact quoGo_fuel _ _ _ _ _ (Nat.le_refl _) (by omega) (by omega)
        · have h92 : ¬ c = 92 := by
            intro h92; subst h92; apply hc; rfl
          rw [if_neg h92] at he
          refine rn ?_
          exact G.met (k + 1, c) (by repeat (first | exact Sub.nil _ | refine Sub.cons rfl ?_)) ⟨hr6, hk6, hbl6, by show k < k + 1; omega, he⟩
  · have hq : (s.drop k).head? = some 34 := by simpa using hc
    have hlt : k < s.length := by
      by_cases hlt : k < s.length
      · exact hlt
      · rw [drop_no hlt] at hq; cases hq
    have he34 : quoGo ((s.drop k).length + 1) out (s.drop k) = some (out, s.drop (k + 1)) := by
      rw [drop_at hlt] at hq ⊢
      have : s.getD k 0 = 34 := by simpa using hq
      rw [List.length_cons]
      simp only [quoGo]
      rw [if_pos this]
    rw [he, he34] at hquo
    simp only at hquo
    refine rn ?_
    refine sAd tb ?_
    refine rn ?_
    refine sSf tb (fun W6 hb6 hw6 => ?_)
    have hr6 := hr3.at_ hb6 hw6 hlt
    have hbl6 := hb3.kp hw6.kp hrb
    have hk6 := hk3.trans hw6.kp
    refine rn ?_
    refine sCall c52 (bstrF_ok W1.heap.size W1.heap.size out W6 (Lib.IsBuilderF.of hbl6) hk6.size) ?_
    rintro _ W7 ⟨rfl, hb7, hx7⟩
    have hr7 := hr6.below hx7 hrb
    have hk7 := kp_below hk6 hx7
    refine rn ?_
    refine sCall c63 (validS_ok out W7 (by have := hr6.hi; omega) hr7.tabs) ?_
    rintro _ W8 ⟨rfl, hx8⟩
    have hr8 := hr7.to hx8
    have hk8 := hk7.trans hx8.kp
    have hb8 := BldF.ext hb7 hx8
    cases hv : Lib.validD out
    · rw [hv] at hquo
      refine rn ?_
      refine sCallP c94 (fail_ok rb i 8 W8 (by decide)) (fun ch w' hz => px_P rfl rfl ?_) ?_
      · exact ⟨hquo, hz.1, by rw [hz.2]; exact hk1.trans hk8⟩
      · rintro _ _ ⟨⟩
    · rw [hv] at hquo
      refine rn ?_
      refine sCall c52 (bstrF_ok W1.heap.size W1.heap.size out W8 hb8 hk8.size) ?_
      rintro _ W9 ⟨rfl, hb9, hx9⟩
      refine rn ?_
      refine G.retP1 rfl rfl rfl rfl ?_
      exact ⟨out, k + 1, hquo, rfl, hr8.below hx9 hrb, hk1.trans (kp_below hk8 hx9)⟩
end Go.Proofs.YtcngoccnfmhhnaaGreatDoor
end
section
namespace Go.Vg
open Go.RowKit

abbrev TV := List (List UInt8 × Value)
def vget : TV → List UInt8 → Option Value
  | [], _ => none
  | p :: r, x => if p.1 = x then some p.2 else vget r x
def vput : TV → List UInt8 → Value → TV
  | [], x, y => [(x, y)]
  | p :: r, x, y => if p.1 = x then (x, y) :: r else p :: vput r x y
def mvC (es : TV) : List (Value × Value) := es.map fun p => (S p.1, p.2)
/-- block b is a map of texts by texts -/
def Mv (w : World) (b : Nat) (es : TV) : Prop := ∃ ms clock, w.heap[b]? = some (.map ⟨ms⟩ clock) ∧ ms.map (fun e => (e.key, e.val)) = mvC es
theorem Mv.lt {w : World} {b : Nat} {es : TV} (h : Mv w b es) : b < w.heap.size := by
  obtain ⟨ms, clock, h, _⟩ := h; exact (Array.getElem?_eq_some_iff.1 h).1
theorem Mv.to {w w' : World} {b : Nat} {es : TV} (h : Mv w b es) (hx : Ext w w') : Mv w' b es := by
  obtain ⟨ms, clock, h, h2⟩ := h
  exact ⟨ms, clock, by rw [hx.block b (Array.getElem?_eq_some_iff.1 h).1]; exact h, h2⟩
theorem Mv.wr {w w' : World} {b b' : Nat} {es : TV} (h : Mv w b es) (hw : Wr b' w w') (hne : b ≠ b') : Mv w' b es := by
  obtain ⟨ms, clock, h, h2⟩ := h
  exact ⟨ms, clock, by rw [hw.block b hne]; exact h, h2⟩

theorem findNow_V (x : List UInt8) : ∀ (ms : List MapEntry) (es : TV) (i : Nat), ms.map (fun e => (e.key, e.val)) = mvC es →
    (Instr.findNow .string (S x) ms i = some none ∧ vget es x = none ∧ (∀ y, vput es x y = es ++ [(x, y)])) ∨
    ∃ j e v, Instr.findNow .string (S x) ms i = some (some (i + j, v)) ∧ vget es x = some v ∧ ms[j]? = some e ∧ e.key = S x ∧ ∀ y, vput es x y = es.set j (x, y)
  | [], [], i, _ => .inl ⟨rfl, rfl, fun _ => rfl⟩
  | [], _ :: _, _, h => by cases h
  | _ :: _, [], _, h => by cases h
  | e :: ms, p :: es, i, h => by
    simp only [mvC, List.map_cons, List.cons.injEq, Prod.mk.injEq] at h
    obtain ⟨⟨hk, hv⟩, hr⟩ := h
    by_cases hx : p.1 = x
    · refine .inr ⟨0, e, p.2, ?_, by simp [vget, hx], rfl, by rw [hk, hx], fun y => by simp [vput, hx]⟩
      simp only [Instr.findNow, hk, sameNow_S, decide_eq_true hx.symm, hv, Nat.add_zero]
    · have hx' : ¬ x = p.1 := fun q => hx q.symm
      have hf : Instr.findNow .string (S x) (e :: ms) i = Instr.findNow .string (S x) ms (i + 1) := by
        simp only [Instr.findNow, hk, sameNow_S, decide_eq_false hx']
      rcases findNow_V x ms es (i + 1) hr with ⟨h1, h2, h3⟩ | ⟨j, e', v, h1, h2, h3, h4, h5⟩
      · exact .inl ⟨by rw [hf, h1], by simp [vget, hx, h2], fun y => by simp [vput, hx, h3]⟩
      · exact .inr ⟨j + 1, e', v, by rw [hf, h1, show i + 1 + j = i + (j + 1) by omega], by simp [vget, hx, h2], by simpa using h3, h4, fun y => by simp [vput, hx, h5]⟩

section
variable {X : Cx} {ops : Array Oper} {e : Env} {w : World} {N : Env → World → Prop} {d : Nat} {c : Option Bool} {ty : TypeId} {pos : String} {af : Array Edge} {g : Option (Nat × Bool)}
theorem Step.makeMapV {t : TypeId} (hg : guardE ops e ⟨some d, .makeMap t none, ty, pos, af, g⟩ = some none) (hn : Nat.blt d X.n = true)
    (h : ∀ w', Mv w' w.heap.size [] → w'.heap.size = w.heap.size + 1 → Ext w w' → N ((d, none, .map (some w.heap.size)) :: e) w') : Step X ops ⟨some d, .makeMap t none, ty, pos, af, g⟩ e w N :=
  Step.eff (v := .map (some w.heap.size)) (w' := w.alloc (.map #[] 0)) rfl (by simpa [Nat.blt_eq] using hn) hg (fun _ hh => by cases hh) (fun t' _ => rfl)
    (h _ ⟨[], 0, heap_alloc_new _ _, rfl⟩ (by simp) (Ext.alloc _ _))

theorem Step.lookupMV (T : Tb X.P) {x i : Operand} {t kt et : TypeId} {b s by_ : Nat} {k : List UInt8} {es : TV} {ok : Bool} {z : Value}
    (hg : guardE ops e ⟨some d, .lookup t x i ok, ty, pos, af, g⟩ = some c) (hx : Op1 e c x (.map (some b))) (hi : Op1 e c i (S k)) (ht : T.ty t = some (.map kt et)) (hk : T.ty kt = some .string) (hz : T.inf et = some (z, s, by_))
    (hm : cv c = true → Mv w b es) (hn : Nat.blt d X.n = true)
    (h : N ((d, c, match ok with | true => .tuple ⟨[(vget es k).getD z, .bool (vget es k).isSome]⟩ | false => (vget es k).getD z) :: e) w) : Step X ops ⟨some d, .lookup t x i ok, ty, pos, af, g⟩ e w N :=
  Step.quiet rfl (by simpa [Nat.blt_eq] using hn) hg (fun _ hh => by cases hh) (fun t' hf hc => by
    obtain ⟨ms, clock, hb, he⟩ := hm hc
    obtain ⟨inf, hi1, hi2, _⟩ := T.iok _ _ _ _ hz
    have hck := fun (em : Bool) => MapKept.run_checkKey (P := X.P) (w := w) (T.ok _ _ hk) (isKeyS k) em 9999
    simp only [execOp, hx.val hf hc, hi.val hf hc, Instr.lookup, Sem.run_bind, run_underlying (T.ok _ _ ht), Result.andThen_ok, MapKept.run_getObj_map hb, Sem.run_pure, hck]
    rcases findNow_V k ms es 0 he with ⟨h1, h2, _⟩ | ⟨j, e0, v, h1, h2, _, _, _⟩
    · have hf1 := MapKept.run_findKey (P := X.P) (w := w) (T.ok _ _ hk) h1
      simp only [hf1, Result.andThen_ok, Sem.run_bind, zeroValue, typeInfo, run_program, hi1, hi2, Sem.run_pure, h2]
      cases ok <;> rfl
    · have hf1 := MapKept.run_findKey (P := X.P) (w := w) (T.ok _ _ hk) h1
      simp only [hf1, Result.andThen_ok, Sem.run_pure, h2]
      cases ok <;> rfl) h

theorem Step.mapUpdateV (T : Tb X.P) {x i y : Operand} {t kt et : TypeId} {b : Nat} {k : List UInt8} {v : Value} {es : TV}
    (hg : guardE ops e ⟨none, .mapUpdate t x i y, ty, pos, af, g⟩ = some none) (hx : Op1 e none x (.map (some b))) (hi : Op1 e none i (S k)) (hy : Op1 e none y v) (ht : T.ty t = some (.map kt et)) (hk : T.ty kt = some .string)
    (hm : Mv w b es) (h : ∀ w', Mv w' b (vput es k v) → Wr b w w' → N e w') : Step X ops ⟨none, .mapUpdate t x i y, ty, pos, af, g⟩ e w N := by
  obtain ⟨ms, clock, hb, he⟩ := hm
  have hck := MapKept.run_checkKey (P := X.P) (w := w) (T.ok _ _ hk) (isKeyS k) false 9999
  have hwr : ∀ o, Wr b w { w with heap := w.heap.setIfInBounds b o } := fun o => ⟨rfl, rfl, rfl, by simp, fun r' hne => (MapKept.heap_set hb).2 r' hne⟩
  rcases findNow_V k ms es 0 he with ⟨h1, h2, h3⟩ | ⟨j, e0, v0, h1, h2, h3, h4, h5⟩
  · have hf1 := MapKept.run_findKey (P := X.P) (w := w) (T.ok _ _ hk) h1
    refine Step.effNone (w' := { w with heap := w.heap.setIfInBounds b (.map ((⟨ms⟩ : Array MapEntry).push { key := S k, val := v, born := clock }) (clock + 1)) }) rfl hg (fun _ hh => by cases hh) (fun t' hf => ?_) (h _ ⟨ms ++ [{ key := S k, val := v, born := clock }], clock + 1, ?_, ?_⟩ (hwr _))
    · simp only [execOp, hx.val hf rfl, hi.val hf rfl, hy.val hf rfl, Instr.mapUpdate, Sem.run_bind, run_underlying (T.ok _ _ ht), Result.andThen_ok, MapKept.run_getObj_map hb, hck, hf1, MapKept.run_setObj_map _ hb, Sem.run_pure]
    · have := (MapKept.heap_set (o' := .map ((⟨ms⟩ : Array MapEntry).push { key := S k, val := v, born := clock }) (clock + 1)) hb).1
      simpa using this
    · rw [h3, List.map_append, he]; simp [mvC]
  · have hf1 := MapKept.run_findKey (P := X.P) (w := w) (T.ok _ _ hk) h1
    have hst := MapKept.run_keyThatStays (P := X.P) (w := w) (isKeyS k)
    have hj : ((⟨ms⟩ : Array MapEntry)[j]?) = some e0 := by simpa using h3
    refine Step.effNone (w' := { w with heap := w.heap.setIfInBounds b (.map ((⟨ms⟩ : Array MapEntry).modify j fun e => { e with key := S k, val := v }) clock) }) rfl hg (fun _ hh => by cases hh) (fun t' hf => ?_) (h _ ⟨((⟨ms⟩ : Array MapEntry).modify j fun e => { e with key := S k, val := v }).toList, clock, ?_, ?_⟩ (hwr _))
    · simp only [execOp, hx.val hf rfl, hi.val hf rfl, hy.val hf rfl, Instr.mapUpdate, Sem.run_bind, run_underlying (T.ok _ _ ht), Result.andThen_ok, MapKept.run_getObj_map hb, hck, hf1, Nat.zero_add, hj, Option.map_some, Option.getD_some, h4, hst, MapKept.run_setObj_map _ hb, Sem.run_pure]
    · exact (MapKept.heap_set hb).1
    · rw [h5]
      apply List.ext_getElem?
      intro i
      have hi := congrArg (fun l => l[i]?) he
      simp only [List.getElem?_map, mvC] at hi
      simp only [List.getElem?_map, Array.getElem?_toList, Array.getElem?_modify, mvC, List.getElem?_set]
      have hlen : ms.length = es.length := by have := congrArg List.length he; simpa [mvC] using this
      have hjl : j < es.length := by rw [← hlen]; exact (List.getElem?_eq_some_iff.1 h3).1
      by_cases hij : j = i
      · subst hij
        rw [if_pos rfl, if_pos rfl, if_pos hjl]
        rw [show ((⟨ms⟩ : Array MapEntry)[j]?) = some e0 from hj]
        rfl
      · rw [if_neg hij, if_neg hij]
        simpa using hi
end
section
variable {X : Cx} {ops : Array Oper} {l : List Oper} {k : List Kt} {e : Env} {w : World} {d : Nat} {c : Option Bool} {ty : TypeId} {pos : String} {af : Array Edge} {g : Option (Nat × Bool)}
theorem sMkV {t : TypeId} (h : ∀ w', Mv w' w.heap.size [] → w'.heap.size = w.heap.size + 1 → Ext w w' → GL X ops l k ((d, none, .map (some w.heap.size)) :: e) w')
    (hg : guardE ops e ⟨some d, .makeMap t none, ty, pos, af, g⟩ = some none := by exact rfl) (hn : Nat.blt d X.n = true := by exact rfl) :
    GL X ops (⟨some d, .makeMap t none, ty, pos, af, g⟩ :: l) k e w := GL.cons (Step.makeMapV hg hn h)
theorem sLkV (T : Tb X.P) {x i : Operand} {t kt et : TypeId} {b s by_ : Nat} {key : List UInt8} {es : TV} {z : Value}
    (h : GL X ops l k ((d, c, (vget es key).getD z) :: e) w)
    (hg : guardE ops e ⟨some d, .lookup t x i false, ty, pos, af, g⟩ = some c := by exact rfl) (hx : Op1 e c x (.map (some b)) := by exact Op1.of rfl (by first | exact fun _ => rfl | exact fun h => h | exact fun h => bL h | exact fun h => bL (bL h))) (hi : Op1 e c i (S key) := by exact Op1.of rfl (by first | exact fun _ => rfl | exact fun h => h | exact fun h => bL h | exact fun h => bL (bL h))) (ht : T.ty t = some (.map kt et) := by exact rfl) (hk : T.ty kt = some .string := by exact rfl) (hz : T.inf et = some (z, s, by_) := by exact rfl)
    (hm : cv c = true → Mv w b es := by intro _; assumption) (hn : Nat.blt d X.n = true := by exact rfl) :
    GL X ops (⟨some d, .lookup t x i false, ty, pos, af, g⟩ :: l) k e w := GL.cons (Step.lookupMV T hg hx hi ht hk hz hm hn h)
theorem sMuV (T : Tb X.P) {x i y : Operand} {t kt et : TypeId} {b : Nat} {key : List UInt8} {v : Value} {es : TV}
    (h : ∀ w', Mv w' b (vput es key v) → Wr b w w' → GL X ops l k e w') (hm : Mv w b es)
    (hg : guardE ops e ⟨none, .mapUpdate t x i y, ty, pos, af, g⟩ = some none := by exact rfl) (hx : Op1 e none x (.map (some b)) := by exact Op1.of rfl (by first | exact fun _ => rfl | exact fun h => h | exact fun h => bL h | exact fun h => bL (bL h))) (hi : Op1 e none i (S key) := by exact Op1.of rfl (by first | exact fun _ => rfl | exact fun h => h | exact fun h => bL h | exact fun h => bL (bL h))) (hy : Op1 e none y v := by exact Op1.of rfl (by first | exact fun _ => rfl | exact fun h => h | exact fun h => bL h | exact fun h => bL (bL h))) (ht : T.ty t = some (.map kt et) := by exact rfl) (hk : T.ty kt = some .string := by exact rfl) :
    GL X ops (⟨none, .mapUpdate t x i y, ty, pos, af, g⟩ :: l) k e w := GL.cons (Step.mapUpdateV T hg hx hi hy ht hk hm h)
end
end Go.Vg
end
section
namespace Go.Vg
open Go.RowKit
theorem G.scopeP {X : Cx} {k : List Kt} {e : Env} {w : World} {c : Code} {P : Program} {fn : Func} {S : Value → World → Prop} {Z : List PanicEntry → World → Prop} (hX : X.fin = retFinP P fn S Z) (hr : X.ρ = none) (h : G X (.code c :: k) e w) : G X (.code (.scope c) :: k) e w := by
  intro t ht
  have h1 := h t ht
  simp only [post] at h1 ⊢
  rw [hr] at h1 ⊢
  refine (wpIn_wide (n := 0)).2 (wp_scope_straight ((wpIn_wide (n := 0)).1 (wpIn_mono h1 ?_)))
  intro ex a w' hq
  cases ex with
  | goto l =>
    have := post_goto hq
    rw [hX] at this
    exact this.elim
  | _ => exact hq
theorem vget_same : ∀ (es : TV) (x : List UInt8) (y : Value), vget (vput es x y) x = some y
  | [], x, y => by simp [vput, vget]
  | p :: r, x, y => by
    by_cases h : p.1 = x
    · simp [vput, vget, h]
    · simp [vput, vget, h, vget_same r x y]
theorem vget_other : ∀ (es : TV) (x m : List UInt8) (y : Value), m ≠ x → vget (vput es x y) m = vget es m
  | [], x, m, y, h => by simp [vput, vget, Ne.symm h]
  | p :: r, x, m, y, h => by
    by_cases hp : p.1 = x
    · subst hp; simp [vput, vget, Ne.symm h]
    · simp only [vput, hp, if_false, vget, vget_other r x m y h]
theorem Mv.kept {w w' : World} {b : Nat} {es : TV} (h : Mv w b es) (hx : w'.heap[b]? = w.heap[b]?) : Mv w' b es := by
  obtain ⟨ms, clock, h, h2⟩ := h
  exact ⟨ms, clock, by rw [hx]; exact h, h2⟩
theorem Mv.kp {w w' : World} {b c : Nat} {es : TV} (h : Mv w b es) (hx : Kp c w w') (hne : b ≠ c) : Mv w' b es := h.kept (hx.block b h.lt hne)
theorem Mv.below {w w' : World} {b B : Nat} {es : TV} (h : Mv w b es) (hx : Below B w w') (hb : b < B) : Mv w' b es := h.kept (hx.block b hb)
theorem Bx.below {w w' : World} {b B : Nat} {us : List Value} (h : Bx w b us) (hx : Below B w w') (hb : b < B) : Bx w' b us := by
  obtain ⟨t, h⟩ := h
  exact ⟨t, by rw [hx.block b hb]; exact h⟩
theorem Grew.bl {B : Nat} {v : Value} {w w' : World} (h : Grew B v w w') : Below B w w' := h.below w (Below.refl _ _)
end Go.Vg
end
section
open Go Go.Vg Go.RowKit Go.Proofs Go.Proofs.YtcngoccnfmhhnaaGreatDoor
namespace Go.Proofs.YtcngoccnfmhhnaaGreatDoor.Lab

/-- a leading byte: how many bytes, its bits, the least number that so many bytes may say -/
def lead (b : Int) : Option (Nat × Int × Int) :=
  if 240 ≤ b ∧ b < 248 then some (4, b - 240, 65536) else if 224 ≤ b ∧ b < 240 then some (3, b - 224, 2048) else if 192 ≤ b ∧ b < 224 then some (2, b - 192, 128)
  else if 128 ≤ b then none else some (1, b, 0)
def byteI (s : List UInt8) (i : Nat) : Int := ((s.getD i 0).toNat : Int)
theorem byteI_bd (s : List UInt8) (i : Nat) : 0 ≤ byteI s i ∧ byteI s i < 256 := by
  have := (s.getD i 0).toNat_lt
  unfold byteI; omega
/-- the number behind j further bytes -/
def contTo (s : List UInt8) (i : Nat) (c : Int) : Nat → Option Int
  | 0 => some c
  | j + 1 => match contTo s i c j with
    | none => none
    | some c => if byteI s (i + (j + 1)) < 128 ∨ 192 ≤ byteI s (i + (j + 1)) then none else some (64 * c + byteI s (i + (j + 1)) - 128)
def badRune (c least : Int) : Bool := decide (c < least) || decide (1114111 < c) || decide (55296 ≤ c) && decide (c ≤ 57343)
def u8n (s : List UInt8) (i : Nat) (n : Nat) (c least : Int) : Nat :=
  if s.length < i + n then 0 else match contTo s i c (n - 1) with
    | none => 0
    | some c => if badRune c least = true then 0 else n
/-- how many bytes the character has that begins at i -/
def u8len (s : List UInt8) (i : Nat) : Nat :=
  match lead (byteI s i) with
  | none => 0
  | some (n, c, least) => u8n s i n c least

theorem contTo_none {s : List UInt8} {i : Nat} {c : Int} {j : Nat} (h : contTo s i c j = none) : ∀ m, j ≤ m → contTo s i c m = none := by
  intro m
  induction m with
  | zero => intro hm; obtain rfl : j = 0 := by omega
            exact h
  | succ m ih =>
    intro hm
    by_cases e : j = m + 1
    · subst e; exact h
    · simp only [contTo, ih (by omega)]
theorem contTo_bd {s : List UInt8} {i : Nat} {c : Int} (hc : 0 ≤ c ∧ c < 256) : ∀ (j : Nat) (r : Int), contTo s i c j = some r → 0 ≤ r ∧ r + 1 ≤ 256 * 64 ^ j := by
  intro j
  induction j with
  | zero => intro r h; simp only [contTo, Option.some.injEq] at h; subst h; omega
  | succ j ih =>
    intro r h
    simp only [contTo] at h
    cases hj : contTo s i c j with
    | none => rw [hj] at h; cases h
    | some q =>
      rw [hj] at h
      simp only at h
      have hq := ih q hj
      have hp : (64 : Int) ^ (j + 1) = 64 * 64 ^ j := by rw [Int.pow_succ, Int.mul_comm]
      rw [hp]
      by_cases hx : byteI s (i + (j + 1)) < 128 ∨ 192 ≤ byteI s (i + (j + 1))
      · rw [if_pos hx] at h; cases h
      · rw [if_neg hx] at h; cases h; omega
theorem contTo_bd3 {s : List UInt8} {i : Nat} {c r : Int} {j : Nat} (hc : 0 ≤ c ∧ c < 256) (h : contTo s i c j = some r) (hj : j ≤ 3) : 0 ≤ r ∧ r < 67108864 := by
  have := contTo_bd hc j r h
  have h3 : (64 : Int) ^ j ≤ 262144 := by
    rcases (show j = 0 ∨ j = 1 ∨ j = 2 ∨ j = 3 by omega) with rfl | rfl | rfl | rfl <;> decide
  omega

set_option maxHeartbeats 800000 in
theorem utf8_ok (s : List UInt8) (i : Nat) (w : World) (hs : s.length ≤ 140737488355328) (hi : i < s.length) :
    Ret Tryz.prog 72 ⟨[S s, .int .i64 i]⟩ w fun v w' => v = .int .i64 (u8len s i) ∧ w' = w := by
  refine ret_of_G Tryz.func72 rfl Tryz.ntmps72 rfl ?_
  simp only [argEnv]
  refine rg ?_
  refine GL.cons (Step.indexS tb i rfl (Op1.of rfl (by first | exact fun _ => rfl | exact fun h => h | exact fun h => bL h | exact fun h => bL (bL h) | exact fun h => bL (bL (bL h)))) (Op1.of rfl (by first | exact fun _ => rfl | exact fun h => h | exact fun h => bL h | exact fun h => bL (bL h) | exact fun h => bL (bL (bL h)))) rfl (fun _ => ⟨by omega, by omega⟩) rfl ?_)
  obtain ⟨b, hb⟩ : ∃ b : Int, b = byteI s i := ⟨_, rfl⟩
  have hbd := byteI_bd s i
  have hU : U (s.getD i 0) = .int .u8 b := by rw [hb]; rfl
  rw [hU]
  rw [← hb] at hbd
  refine GL.cons (Step.convI tb rfl (Op1.of rfl (by first | exact fun _ => rfl | exact fun h => h | exact fun h => bL h | exact fun h => bL (bL h) | exact fun h => bL (bL (bL h)))) rfl rfl (wrap_i64 (by omega) (by omega)) rfl ?_)
  refine rg ?_
  refine G.join (fun x : Nat × Int × Int => [(0, none, S s), (0 + 1, none, .int .i64 i), (6, none, .int .i64 x.1), (7, none, .int .i64 x.2.1), (8, none, .int .i64 x.2.2)])
    (fun x w' => w' = w ∧ lead b = some x ∧ 1 ≤ x.1 ∧ x.1 ≤ 4 ∧ 0 ≤ x.2.1 ∧ x.2.1 < 256) ?_ ?_
  · rintro ⟨n, c, least⟩ w ⟨rfl, hl, hn1, hn4, hc0, hc1⟩
    simp only at hl hn1 hn4 hc0 hc1 ⊢
    have hu : u8len s i = u8n s i n c least := by unfold u8len; rw [← hb, hl]
    refine rg ?_
    refine GL.cons (Step.arith rfl (Op1.of rfl (by first | exact fun _ => rfl | exact fun h => h | exact fun h => bL h | exact fun h => bL (bL h) | exact fun h => bL (bL (bL h)))) (Op1.of rfl (by first | exact fun _ => rfl | exact fun h => h | exact fun h => bL h | exact fun h => bL (bL h) | exact fun h => bL (bL (bL h)))) (wrap_i64 (by omega) (by omega)) rfl ?_)
    refine rg ?_
    first | refine G.condD rfl (fun hc => ?_) (fun hc => ?_) | refine G.condN rfl (fun hc => ?_) (fun hc => ?_) | refine G.cond rfl (fun hc => ?_) (fun hc => ?_)
    · refine rg ?_
      refine G.ret1 rfl rfl rfl rfl ?_
      refine ⟨?_, rfl⟩
      rw [hu, u8n, if_pos (by omega)]; rfl
    · refine rg ?_
      refine (G.loop (fun x : Nat × Int => [(0, none, S s), (0 + 1, none, .int .i64 i), (6, none, .int .i64 n), (7, none, .int .i64 x.2), (8, none, .int .i64 least), (9, none, .int .i64 (x.1 + 1 : Nat))])
        (fun x w' => w' = w ∧ x.1 + 1 ≤ n ∧ contTo s i c x.1 = some x.2) (fun x => n - x.1) (0, c) (by repeat (first | exact Sub.nil _ | refine Sub.cons rfl ?_)) ⟨rfl, by simpa using hn1, rfl⟩ ?_)
      rintro ⟨j, q⟩ w ⟨rfl, hj, hq⟩
      simp only at hj hq ⊢
      have hqb := contTo_bd3 ⟨hc0, hc1⟩ hq (by omega)
      refine rg ?_
      first | refine G.condD rfl (fun hc => ?_) (fun hc => ?_) | refine G.condN rfl (fun hc => ?_) (fun hc => ?_) | refine G.cond rfl (fun hc => ?_) (fun hc => ?_)
      · refine rg ?_
        refine GL.cons (Step.arith rfl (Op1.of rfl (by first | exact fun _ => rfl | exact fun h => h | exact fun h => bL h | exact fun h => bL (bL h) | exact fun h => bL (bL (bL h)))) (Op1.of rfl (by first | exact fun _ => rfl | exact fun h => h | exact fun h => bL h | exact fun h => bL (bL h) | exact fun h => bL (bL (bL h)))) (wrap_i64 (by omega) (by omega)) rfl ?_)
        rw [show (i : Int) + ((j + 1 : Nat) : Int) = ((i + (j + 1) : Nat) : Int) by omega]
        refine GL.cons (Step.indexS tb (i + (j + 1)) rfl (Op1.of rfl (by first | exact fun _ => rfl | exact fun h => h | exact fun h => bL h | exact fun h => bL (bL h) | exact fun h => bL (bL (bL h)))) (Op1.of rfl (by first | exact fun _ => rfl | exact fun h => h | exact fun h => bL h | exact fun h => bL (bL h) | exact fun h => bL (bL (bL h)))) rfl (fun _ => ⟨by omega, by omega⟩) rfl ?_)
        obtain ⟨x, hx⟩ : ∃ x : Int, x = byteI s (i + (j + 1)) := ⟨_, rfl⟩
        have hxd := byteI_bd s (i + (j + 1))
        have hUx : U (s.getD (i + (j + 1)) 0) = .int .u8 x := by rw [hx]; rfl
        rw [hUx]
        rw [← hx] at hxd
        refine GL.cons (Step.convI tb rfl (Op1.of rfl (by first | exact fun _ => rfl | exact fun h => h | exact fun h => bL h | exact fun h => bL (bL h) | exact fun h => bL (bL (bL h)))) rfl rfl (wrap_i64 (by omega) (by omega)) rfl ?_)
        refine rg ?_
        have hcn : contTo s i c (j + 1) = if x < 128 ∨ 192 ≤ x then none else some (64 * q + x - 128) := by simp only [contTo, hq, hx]
        first | refine G.condD rfl (fun hc => ?_) (fun hc => ?_) | refine G.condN rfl (fun hc => ?_) (fun hc => ?_) | refine G.cond rfl (fun hc => ?_) (fun hc => ?_)
        · refine rg ?_
          refine G.ret1 rfl rfl rfl rfl ?_
          refine ⟨?_, rfl⟩
          simp only [Bool.or_eq_true, decide_eq_true_eq] at hc
          rw [if_pos hc] at hcn
          rw [hu, u8n, if_neg (by omega), contTo_none hcn (n - 1) (by omega)]; rfl
        · simp only [Bool.or_eq_false_iff, decide_eq_false_iff_not] at hc
          rw [if_neg (by omega)] at hcn
          refine rg ?_
          refine GL.cons (Step.arith rfl (Op1.of rfl (by first | exact fun _ => rfl | exact fun h => h | exact fun h => bL h | exact fun h => bL (bL h) | exact fun h => bL (bL (bL h)))) (Op1.of rfl (by first | exact fun _ => rfl | exact fun h => h | exact fun h => bL h | exact fun h => bL (bL h) | exact fun h => bL (bL (bL h)))) (wrap_i64 (by omega) (by omega)) rfl ?_)
          refine rg ?_
          refine GL.cons (Step.arith rfl (Op1.of rfl (by first | exact fun _ => rfl | exact fun h => h | exact fun h => bL h | exact fun h => bL (bL h) | exact fun h => bL (bL (bL h)))) (Op1.of rfl (by first | exact fun _ => rfl | exact fun h => h | exact fun h => bL h | exact fun h => bL (bL h) | exact fun h => bL (bL (bL h)))) (wrap_i64 (by omega) (by omega)) rfl ?_)
          refine rg ?_
          refine GL.cons (Step.arith rfl (Op1.of rfl (by first | exact fun _ => rfl | exact fun h => h | exact fun h => bL h | exact fun h => bL (bL h) | exact fun h => bL (bL (bL h)))) (Op1.of rfl (by first | exact fun _ => rfl | exact fun h => h | exact fun h => bL h | exact fun h => bL (bL h) | exact fun h => bL (bL (bL h)))) (wrap_i64 (by omega) (by omega)) rfl ?_)
          refine rg ?_
          refine GL.cons (Step.arith rfl (Op1.of rfl (by first | exact fun _ => rfl | exact fun h => h | exact fun h => bL h | exact fun h => bL (bL h) | exact fun h => bL (bL (bL h)))) (Op1.of rfl (by first | exact fun _ => rfl | exact fun h => h | exact fun h => bL h | exact fun h => bL (bL h) | exact fun h => bL (bL (bL h)))) (wrap_i64 (by omega) (by omega)) rfl ?_)
          refine rg ?_
          exact G.lp (x := (j, q)) (j + 1, 64 * q + x - 128) (by repeat (first | exact Sub.nil _ | refine Sub.cons rfl ?_)) ⟨rfl, by simp only; omega, hcn⟩ (by simp only; omega)
      · have hjn : j = n - 1 := by omega
        refine rg ?_
        first | refine G.condD rfl (fun hc => ?_) (fun hc => ?_) | refine G.condN rfl (fun hc => ?_) (fun hc => ?_) | refine G.cond rfl (fun hc => ?_) (fun hc => ?_)
        · refine rg ?_
          refine G.ret1 rfl rfl rfl rfl ?_
          refine ⟨?_, rfl⟩
          rw [hu, u8n, if_neg (by omega), ← hjn, hq]
          simp only [badRune, hc, if_true]; rfl
        · refine rg ?_
          refine G.ret1 rfl rfl rfl rfl ?_
          refine ⟨?_, rfl⟩
          rw [hu, u8n, if_neg (by omega), ← hjn, hq]
          simp only [badRune, hc, Bool.false_eq_true, if_false]
  · first | refine G.condD rfl (fun hc => ?_) (fun hc => ?_) | refine G.condN rfl (fun hc => ?_) (fun hc => ?_) | refine G.cond rfl (fun hc => ?_) (fun hc => ?_)
    · simp only [Bool.and_eq_true, decide_eq_true_eq] at hc
      refine rg ?_
      refine GL.cons (Step.arith rfl (Op1.of rfl (by first | exact fun _ => rfl | exact fun h => h | exact fun h => bL h | exact fun h => bL (bL h) | exact fun h => bL (bL (bL h)))) (Op1.of rfl (by first | exact fun _ => rfl | exact fun h => h | exact fun h => bL h | exact fun h => bL (bL h) | exact fun h => bL (bL (bL h)))) (wrap_i64 (by omega) (by omega)) rfl ?_)
      refine rg ?_
      exact G.met (4, b - 240, 65536) (by repeat (first | exact Sub.nil _ | refine Sub.cons rfl ?_)) ⟨rfl, by rw [lead, if_pos hc], by omega, by omega, by simp; omega, by simp; omega⟩
    · simp only [Bool.and_eq_false_iff, decide_eq_false_iff_not] at hc
      refine rg ?_
      have hc1 := hc
      first | refine G.condD rfl (fun hc => ?_) (fun hc => ?_) | refine G.condN rfl (fun hc => ?_) (fun hc => ?_) | refine G.cond rfl (fun hc => ?_) (fun hc => ?_)
      · simp only [Bool.and_eq_true, decide_eq_true_eq] at hc
        refine rg ?_
        refine GL.cons (Step.arith rfl (Op1.of rfl (by first | exact fun _ => rfl | exact fun h => h | exact fun h => bL h | exact fun h => bL (bL h) | exact fun h => bL (bL (bL h)))) (Op1.of rfl (by first | exact fun _ => rfl | exact fun h => h | exact fun h => bL h | exact fun h => bL (bL h) | exact fun h => bL (bL (bL h)))) (wrap_i64 (by omega) (by omega)) rfl ?_)
        refine rg ?_
        exact G.met (3, b - 224, 2048) (by repeat (first | exact Sub.nil _ | refine Sub.cons rfl ?_)) ⟨rfl, by rw [lead, if_neg (by omega), if_pos hc], by omega, by omega, by simp; omega, by simp; omega⟩
      · simp only [Bool.and_eq_false_iff, decide_eq_false_iff_not] at hc
        refine rg ?_
        have hc2 := hc
        first | refine G.condD rfl (fun hc => ?_) (fun hc => ?_) | refine G.condN rfl (fun hc => ?_) (fun hc => ?_) | refine G.cond rfl (fun hc => ?_) (fun hc => ?_)
        · simp only [Bool.and_eq_true, decide_eq_true_eq] at hc
          refine rg ?_
          refine GL.cons (Step.arith rfl (Op1.of rfl (by first | exact fun _ => rfl | exact fun h => h | exact fun h => bL h | exact fun h => bL (bL h) | exact fun h => bL (bL (bL h)))) (Op1.of rfl (by first | exact fun _ => rfl | exact fun h => h | exact fun h => bL h | exact fun h => bL (bL h) | exact fun h => bL (bL (bL h)))) (wrap_i64 (by omega) (by omega)) rfl ?_)
          refine rg ?_
          exact G.met (2, b - 192, 128) (by repeat (first | exact Sub.nil _ | refine Sub.cons rfl ?_)) ⟨rfl, by rw [lead, if_neg (by omega), if_neg (by omega), if_pos hc], by omega, by omega, by simp; omega, by simp; omega⟩
        · simp only [Bool.and_eq_false_iff, decide_eq_false_iff_not] at hc
          refine rg ?_
          have hc3 := hc
          first | refine G.condD rfl (fun hc => ?_) (fun hc => ?_) | refine G.condN rfl (fun hc => ?_) (fun hc => ?_) | refine G.cond rfl (fun hc => ?_) (fun hc => ?_)
          · refine rg ?_
            refine G.ret1 rfl rfl rfl rfl ?_
            refine ⟨?_, rfl⟩
            have : lead (byteI s i) = none := by rw [← hb, lead, if_neg (by omega), if_neg (by omega), if_neg (by omega), if_pos hc]
            simp only [u8len, this]
            rfl
          · refine rg ?_
            exact G.met (1, b, 0) (by repeat (first | exact Sub.nil _ | refine Sub.cons rfl ?_)) ⟨rfl, by rw [lead, if_neg (by omega), if_neg (by omega), if_neg (by omega), if_neg hc], by omega, by omega, by simp; omega, by simp; omega⟩
end Go.Proofs.YtcngoccnfmhhnaaGreatDoor.Lab
end
section
open Go Go.Vg Go.RowKit Go.Proofs Go.Proofs.YtcngoccnfmhhnaaGreatDoor
namespace Go.Proofs.YtcngoccnfmhhnaaGreatDoor.Lab

/-- a letter or an underscore -/
def lett (c : UInt8) : Bool := decide ((97 : Int) ≤ c.toNat) && decide ((c.toNat : Int) ≤ 122) || decide ((65 : Int) ≤ c.toNat) && decide ((c.toNat : Int) ≤ 90) || decide ((c.toNat : Int) = 95)
def digitC (c : UInt8) : Bool := decide ((48 : Int) ≤ c.toNat) && decide ((c.toNat : Int) ≤ 57)
def namedC (colons : Bool) (i : Nat) (c : UInt8) : Bool := lett c || decide ((c.toNat : Int) = 58) && colons || digitC c && decide ((0 : Int) < i)
def namedTo (colons : Bool) (s : List UInt8) (n : Nat) : Prop := ∀ i, i < n → namedC colons i (s.getD i 0) = true
instance (colons : Bool) (s : List UInt8) (n : Nat) : Decidable (namedTo colons s n) := by unfold namedTo; infer_instance
def namedB (colons : Bool) (s : List UInt8) : Bool := decide (namedTo colons s s.length) && (!decide (s = []) && decide ((s.length : Int) ≤ 1024))

theorem namedTo_succ {colons : Bool} {s : List UInt8} {n : Nat} (h : namedTo colons s n) (hc : namedC colons n (s.getD n 0) = true) : namedTo colons s (n + 1) := by
  intro i hi
  by_cases e : i = n
  · subst e; exact hc
  · exact h i (by omega)

theorem namedB_no {colons : Bool} {s : List UInt8} {n : Nat} (hn : n < s.length) (hc : namedC colons n (s.getD n 0) = false) : namedB colons s = false := by
  have : ¬ namedTo colons s s.length := fun h => by rw [h n hn] at hc; cases hc
  simp [namedB, this]
theorem namedB_end {colons : Bool} {s : List UInt8} (h : namedTo colons s s.length) : namedB colons s = (!decide (s = []) && decide ((s.length : Int) ≤ 1024)) := by
  simp [namedB, h]

theorem named_ok (s : List UInt8) (b : Bool) (w : World) (hs : s.length ≤ 9223372036854775807) :
    Ret Tryz.prog 95 ⟨[S s, .bool b]⟩ w fun v w' => v = .bool (namedB b s) ∧ w' = w := by
  refine ret_of_G Tryz.func95 rfl Tryz.ntmps95 rfl ?_
  simp only [argEnv]
  refine rg ?_
  refine (G.loop (fun k : Nat => [(0, none, S s), (1, none, .bool b), (8, none, .int .i64 s.length), (9, none, .int .i64 k)]) (fun k w' => w' = w ∧ k ≤ s.length ∧ namedTo b s k) (fun k => s.length - k) 0 (by repeat (first | exact Sub.nil _ | refine Sub.cons rfl ?_)) ⟨rfl, by omega, fun i hi => by omega⟩ ?_)
  rintro k w ⟨rfl, hk, hto⟩
  refine rg ?_
  first | refine G.condD rfl (fun hc => ?_) (fun hc => ?_) | refine G.condN rfl (fun hc => ?_) (fun hc => ?_) | refine G.cond rfl (fun hc => ?_) (fun hc => ?_)
  · have hlt : k < s.length := by omega
    refine rg ?_
    refine GL.cons (Step.indexS tb k rfl (Op1.of rfl (by first | exact fun _ => rfl | exact fun h => h | exact fun h => bL h | exact fun h => bL (bL h) | exact fun h => bL (bL (bL h)))) (Op1.of rfl (by first | exact fun _ => rfl | exact fun h => h | exact fun h => bL h | exact fun h => bL (bL h) | exact fun h => bL (bL (bL h)))) rfl (fun _ => ⟨by omega, by omega⟩) rfl ?_)
    refine rg ?_
    refine G.sub (e' := [(15, none, .bool (lett (s.getD k 0))), (6, none, U (s.getD k 0)), (5, none, .int .i64 k), (0, none, S s), (1, none, .bool b), (8, none, .int .i64 s.length), (9, none, .int .i64 k)]) (by repeat (first | exact Sub.nil _ | refine Sub.cons rfl ?_)) ?_
    have next : namedC b k (s.getD k 0) = true → ∃ x', namedTo b s x' ∧ x' = k + 1 := fun h => ⟨k + 1, namedTo_succ hto h, rfl⟩
    first | refine G.condD rfl (fun hc => ?_) (fun hc => ?_) | refine G.condN rfl (fun hc => ?_) (fun hc => ?_) | refine G.cond rfl (fun hc => ?_) (fun hc => ?_)
    · refine rg ?_
      refine GL.cons (Step.arith rfl (Op1.of rfl (by first | exact fun _ => rfl | exact fun h => h | exact fun h => bL h | exact fun h => bL (bL h) | exact fun h => bL (bL (bL h)))) (Op1.of rfl (by first | exact fun _ => rfl | exact fun h => h | exact fun h => bL h | exact fun h => bL (bL h) | exact fun h => bL (bL (bL h)))) (wrap_i64 (by omega) (by omega)) rfl ?_)
      refine rg ?_
      refine G.lp (k + 1) (by repeat (first | exact Sub.nil _ | refine Sub.cons rfl ?_)) ⟨rfl, by omega, namedTo_succ hto (by simp only [namedC, hc]; simp)⟩ (by omega)
    · refine rg ?_
      first | refine G.condD rfl (fun hc => ?_) (fun hc => ?_) | refine G.condN rfl (fun hc => ?_) (fun hc => ?_) | refine G.cond rfl (fun hc => ?_) (fun hc => ?_)
      · refine rg ?_
        refine GL.cons (Step.arith rfl (Op1.of rfl (by first | exact fun _ => rfl | exact fun h => h | exact fun h => bL h | exact fun h => bL (bL h) | exact fun h => bL (bL (bL h)))) (Op1.of rfl (by first | exact fun _ => rfl | exact fun h => h | exact fun h => bL h | exact fun h => bL (bL h) | exact fun h => bL (bL (bL h)))) (wrap_i64 (by omega) (by omega)) rfl ?_)
        refine rg ?_
        refine G.lp (k + 1) (by repeat (first | exact Sub.nil _ | refine Sub.cons rfl ?_)) ⟨rfl, by omega, namedTo_succ hto (by simp only [namedC, hc]; simp)⟩ (by omega)
      · refine rg ?_
        have hc2 := hc
        first | refine G.condD rfl (fun hc => ?_) (fun hc => ?_) | refine G.condN rfl (fun hc => ?_) (fun hc => ?_) | refine G.cond rfl (fun hc => ?_) (fun hc => ?_)
        · refine rg ?_
          refine GL.cons (Step.arith rfl (Op1.of rfl (by first | exact fun _ => rfl | exact fun h => h | exact fun h => bL h | exact fun h => bL (bL h) | exact fun h => bL (bL (bL h)))) (Op1.of rfl (by first | exact fun _ => rfl | exact fun h => h | exact fun h => bL h | exact fun h => bL (bL h) | exact fun h => bL (bL (bL h)))) (wrap_i64 (by omega) (by omega)) rfl ?_)
          refine rg ?_
          refine G.lp (k + 1) (by repeat (first | exact Sub.nil _ | refine Sub.cons rfl ?_)) ⟨rfl, by omega, namedTo_succ hto (by simp only [namedC, digitC, hc]; simp)⟩ (by omega)
        · refine rg ?_
          refine G.ret1 rfl rfl rfl rfl ?_
          refine ⟨?_, rfl⟩
          rw [namedB_no hlt (by simp only [namedC, digitC, *]; rfl)]
  · refine rg ?_
    refine G.ret1 rfl rfl rfl rfl ?_
    obtain rfl : k = s.length := by omega
    exact ⟨by rw [namedB_end hto], rfl⟩

def wordC (colons : Bool) (i : Nat) (c : UInt8) : Bool := lett c || digitC c && decide ((0 : Int) < i) || decide ((c.toNat : Int) = 58) && colons
theorem wordC_eq (colons : Bool) (i : Nat) (c : UInt8) : wordC colons i c = namedC colons i c := by
  unfold wordC namedC
  cases lett c <;> cases digitC c <;> cases (decide ((0 : Int) < i)) <;> cases (decide ((c.toNat : Int) = 58)) <;> cases colons <;> rfl
theorem word_ok (s : List UInt8) (b : Bool) (w : World) (hs : s.length ≤ 9223372036854775807) :
    Ret Tryz.prog 103 ⟨[S s, .bool b]⟩ w fun v w' => v = .bool (namedB b s) ∧ w' = w := by
  refine ret_of_G Tryz.func103 rfl Tryz.ntmps103 rfl ?_
  simp only [argEnv]
  refine rg ?_
  refine (G.loop (fun k : Nat => [(0, none, S s), (1, none, .bool b), (5, none, .int .i64 k)]) (fun k w' => w' = w ∧ k ≤ s.length ∧ namedTo b s k) (fun k => s.length - k) 0 (by repeat (first | exact Sub.nil _ | refine Sub.cons rfl ?_)) ⟨rfl, by omega, fun i hi => by omega⟩ ?_)
  rintro k w ⟨rfl, hk, hto⟩
  refine rg ?_
  first | refine G.condD rfl (fun hc => ?_) (fun hc => ?_) | refine G.condN rfl (fun hc => ?_) (fun hc => ?_) | refine G.cond rfl (fun hc => ?_) (fun hc => ?_)
  · have hlt : k < s.length := by omega
    refine rg ?_
    refine GL.cons (Step.indexS tb k rfl (Op1.of rfl (by first | exact fun _ => rfl | exact fun h => h | exact fun h => bL h | exact fun h => bL (bL h) | exact fun h => bL (bL (bL h)))) (Op1.of rfl (by first | exact fun _ => rfl | exact fun h => h | exact fun h => bL h | exact fun h => bL (bL h) | exact fun h => bL (bL (bL h)))) rfl (fun _ => ⟨by omega, by omega⟩) rfl ?_)
    refine rg ?_
    refine G.sub (e' := [(55, none, .bool (!wordC b k (s.getD k 0))), (0, none, S s), (0 + 1, none, .bool b), (5, none, .int .i64 k)]) (by repeat (first | exact Sub.nil _ | refine Sub.cons rfl ?_)) ?_
    rw [wordC_eq]
    first | refine G.condD rfl (fun hc => ?_) (fun hc => ?_) | refine G.condN rfl (fun hc => ?_) (fun hc => ?_) | refine G.cond rfl (fun hc => ?_) (fun hc => ?_)
    · refine rg ?_
      refine G.ret1 rfl rfl rfl rfl ?_
      refine ⟨?_, rfl⟩
      rw [namedB_no hlt (by simpa using hc)]
    · refine rg ?_
      refine GL.cons (Step.arith rfl (Op1.of rfl (by first | exact fun _ => rfl | exact fun h => h | exact fun h => bL h | exact fun h => bL (bL h) | exact fun h => bL (bL (bL h)))) (Op1.of rfl (by first | exact fun _ => rfl | exact fun h => h | exact fun h => bL h | exact fun h => bL (bL h) | exact fun h => bL (bL (bL h)))) (wrap_i64 (by omega) (by omega)) rfl ?_)
      refine rg ?_
      refine G.lp (k + 1) (by repeat (first | exact Sub.nil _ | refine Sub.cons rfl ?_)) ⟨rfl, by omega, namedTo_succ hto (by simpa using hc)⟩ (by omega)
  · refine rg ?_
    refine G.ret1 rfl rfl rfl rfl ?_
    obtain rfl : k = s.length := by omega
    refine ⟨?_, rfl⟩
    rw [namedB_end hto]
    cases s with
    | nil => simp
    | cons a r => simp; omega

theorem rightName_ok (s : List UInt8) (w : World) (hs : s.length ≤ 9223372036854775807) :
    Ret Tryz.prog 144 ⟨[S s]⟩ w fun v w' => v = .bool (namedB false s) ∧ Ext w w' := by
  refine ret_of_G Tryz.func144 rfl Tryz.ntmps144 rfl ?_
  simp only [argEnv]
  refine rg ?_
  refine GL.cons (Step.callF rfl rfl rfl c95 rfl (named_ok s false w hs) ?_)
  rintro _ _ ⟨rfl, rfl⟩
  refine rg ?_
  refine G.ret1 rfl rfl rfl rfl ?_
  exact ⟨rfl, Ext.refl _⟩
theorem rightMetric_ok (s : List UInt8) (w : World) (hs : s.length ≤ 9223372036854775807) :
    Ret Tryz.prog 61 ⟨[S s]⟩ w fun v w' => v = .bool (namedB true s) ∧ Ext w w' := by
  refine ret_of_G Tryz.func61 rfl Tryz.ntmps61 rfl ?_
  simp only [argEnv]
  refine rg ?_
  refine GL.cons (Step.callF rfl rfl rfl c95 rfl (named_ok s true w hs) ?_)
  rintro _ _ ⟨rfl, rfl⟩
  refine rg ?_
  refine G.ret1 rfl rfl rfl rfl ?_
  exact ⟨rfl, Ext.refl _⟩
theorem refName_ok (s : List UInt8) (w : World) (hs : s.length ≤ 9223372036854775807) :
    Ret Tryz.prog 104 ⟨[S s]⟩ w fun v w' => v = .bool (namedB false s) ∧ Ext w w' := by
  refine ret_of_G Tryz.func104 rfl Tryz.ntmps104 rfl ?_
  simp only [argEnv]
  refine rg ?_
  refine GL.cons (Step.callF rfl rfl rfl c103 rfl (word_ok s false w hs) ?_)
  rintro _ _ ⟨rfl, rfl⟩
  refine rg ?_
  refine G.ret1 rfl rfl rfl rfl ?_
  exact ⟨rfl, Ext.refl _⟩
theorem refMetric_ok (s : List UInt8) (w : World) (hs : s.length ≤ 9223372036854775807) :
    Ret Tryz.prog 71 ⟨[S s]⟩ w fun v w' => v = .bool (namedB true s) ∧ Ext w w' := by
  refine ret_of_G Tryz.func71 rfl Tryz.ntmps71 rfl ?_
  simp only [argEnv]
  refine rg ?_
  refine GL.cons (Step.callF rfl rfl rfl c103 rfl (word_ok s true w hs) ?_)
  rintro _ _ ⟨rfl, rfl⟩
  refine rg ?_
  refine G.ret1 rfl rfl rfl rfl ?_
  exact ⟨rfl, Ext.refl _⟩
end Go.Proofs.YtcngoccnfmhhnaaGreatDoor.Lab
end
section
open Go Go.Vg Go.RowKit Go.Proofs Go.Proofs.YtcngoccnfmhhnaaGreatDoor
namespace Go.Proofs.YtcngoccnfmhhnaaGreatDoor.Lab

abbrev Lab := List UInt8 × List UInt8
def labC (x : Lab) : List Value := [S x.1, S x.2]
abbrev Labs (w : World) (v : Value) (ls : List Lab) : Prop := Sli w v 2 (ls.map labC)
theorem Labs.get {ls : List Lab} {k : Nat} (h : k < ls.length) : (ls.map labC)[k]? = some (labC ls[k]) := by simp [h]
theorem Labs.bound {w : World} {v : Value} {ls : List Lab} (h : Labs w v ls) : ls.length ≤ 9223372036854775807 := by have := Sli.bound h; simpa using this

def hasL (ls : List Lab) (name : List UInt8) : Bool := ls.any fun x => decide (x.1 = name)
theorem has_ok (v : Value) (ls : List Lab) (name : List UInt8) (w : World) (hv : Labs w v ls) :
    Ret Tryz.prog 75 ⟨[v, S name]⟩ w fun r w' => r = .bool (hasL ls name) ∧ w' = w := by
  have hbd := Labs.bound hv
  refine ret_of_G Tryz.func75 rfl Tryz.ntmps75 rfl ?_
  simp only [argEnv]
  refine rg ?_
  refine (G.loop (fun k : Nat => [(0, none, v), (0 + 1, none, S name), (5, none, .int .i64 k)]) (fun k w' => w' = w ∧ k ≤ ls.length ∧ hasL (ls.take k) name = false) (fun k => ls.length - k) 0 (by repeat (first | exact Sub.nil _ | refine Sub.cons rfl ?_)) ⟨rfl, by omega, rfl⟩ ?_)
  rintro k w ⟨rfl, hk, hto⟩
  refine rg ?_
  refine GL.cons (Step.lenV tb rfl (Op1.of rfl (by first | exact fun _ => rfl | exact fun h => h | exact fun h => bL h | exact fun h => bL (bL h) | exact fun h => bL (bL (bL h)))) rfl (fun _ => ⟨_, hv⟩) rfl ?_)
  refine rg ?_
  simp only [List.length_map]
  first | refine G.condD rfl (fun hc => ?_) (fun hc => ?_) | refine G.condN rfl (fun hc => ?_) (fun hc => ?_) | refine G.cond rfl (fun hc => ?_) (fun hc => ?_)
  · have hlt : k < ls.length := by omega
    refine rg ?_
    refine GL.cons (Step.indexAddr tb k rfl (Op1.of rfl (by first | exact fun _ => rfl | exact fun h => h | exact fun h => bL h | exact fun h => bL (bL h) | exact fun h => bL (bL (bL h)))) (Op1.of rfl (by first | exact fun _ => rfl | exact fun h => h | exact fun h => bL h | exact fun h => bL (bL h) | exact fun h => bL (bL (bL h)))) rfl rfl (fun _ => ⟨_, hv⟩) (fun _ => ⟨by omega, by simpa using hlt⟩) rfl ?_)
    refine GL.cons (Step.fieldAddr tb rfl (Op1.of rfl (by first | exact fun _ => rfl | exact fun h => h | exact fun h => bL h | exact fun h => bL (bL h) | exact fun h => bL (bL (bL h)))) rfl rfl rfl rfl (fun _ => (hv.elem (Labs.get hlt)).ptr) rfl ?_)
    refine GL.cons (Step.load1 tb rfl (Op1.of rfl (by first | exact fun _ => rfl | exact fun h => h | exact fun h => bL h | exact fun h => bL (bL h) | exact fun h => bL (bL (bL h)))) rfl rfl (fun _ => (hv.elem (Labs.get hlt)).cell (i := 0) rfl) rfl ?_)
    refine rg ?_
    have ht : ls.take (k + 1) = ls.take k ++ [ls[k]] := by rw [List.take_succ_eq_append_getElem hlt]
    first | refine G.condD rfl (fun hc => ?_) (fun hc => ?_) | refine G.condN rfl (fun hc => ?_) (fun hc => ?_) | refine G.cond rfl (fun hc => ?_) (fun hc => ?_)
    · refine rg ?_
      refine G.ret1 rfl rfl rfl rfl ?_
      refine ⟨?_, rfl⟩
      have : hasL ls name = true := List.any_eq_true.2 ⟨ls[k], List.getElem_mem hlt, by simpa using hc⟩
      rw [this]
    · refine rg ?_
      refine GL.cons (Step.arith rfl (Op1.of rfl (by first | exact fun _ => rfl | exact fun h => h | exact fun h => bL h | exact fun h => bL (bL h) | exact fun h => bL (bL (bL h)))) (Op1.of rfl (by first | exact fun _ => rfl | exact fun h => h | exact fun h => bL h | exact fun h => bL (bL h) | exact fun h => bL (bL (bL h)))) (wrap_i64 (by omega) (by omega)) rfl ?_)
      refine rg ?_
      refine G.lp (k + 1) (by repeat (first | exact Sub.nil _ | refine Sub.cons rfl ?_)) ⟨rfl, by omega, ?_⟩ (by omega)
      rw [ht]; simp only [hasL, List.any_append, List.any_cons, List.any_nil, Bool.or_false, Bool.or_eq_false_iff]
      exact ⟨hto, by simpa using hc⟩
  · refine rg ?_
    refine G.ret1 rfl rfl rfl rfl ?_
    refine ⟨?_, rfl⟩
    obtain rfl : k = ls.length := by omega
    rw [List.take_length] at hto; rw [hto]

theorem drop_cons {α : Type} {l : List α} {k : Nat} (h : k < l.length) : l.drop k = l[k] :: l.drop (k + 1) := List.drop_eq_getElem_cons h
/-- P2.2: the value of the first label of that name -/
def getL : List Lab → List UInt8 → List UInt8
  | [], _ => []
  | x :: r, name => if x.1 = name then x.2 else getL r name

theorem refGet_ok (v : Value) (ls : List Lab) (name : List UInt8) (w : World) (hv : Labs w v ls) :
    Ret Tryz.prog 40 ⟨[v, S name]⟩ w fun r w' => r = S (getL ls name) ∧ Ext w w' := by
  have hbd := Labs.bound hv
  refine ret_of_G Tryz.func40 rfl Tryz.ntmps40 rfl ?_
  simp only [argEnv]
  refine rg ?_
  refine (G.loop (fun k : Nat => [(0, none, v), (0 + 1, none, S name), (5, none, .int .i64 k)]) (fun k w' => w' = w ∧ k ≤ ls.length ∧ getL (ls.drop k) name = getL ls name) (fun k => ls.length - k) 0 (by repeat (first | exact Sub.nil _ | refine Sub.cons rfl ?_)) ⟨rfl, by omega, rfl⟩ ?_)
  rintro k w ⟨rfl, hk, hto⟩
  refine rg ?_
  refine GL.cons (Step.lenV tb rfl (Op1.of rfl (by first | exact fun _ => rfl | exact fun h => h | exact fun h => bL h | exact fun h => bL (bL h) | exact fun h => bL (bL (bL h)))) rfl (fun _ => ⟨_, hv⟩) rfl ?_)
  refine rg ?_
  simp only [List.length_map]
  first | refine G.condD rfl (fun hc => ?_) (fun hc => ?_) | refine G.condN rfl (fun hc => ?_) (fun hc => ?_) | refine G.cond rfl (fun hc => ?_) (fun hc => ?_)
  · have hlt : k < ls.length := by omega
    rw [drop_cons hlt] at hto
    refine rg ?_
    refine GL.cons (Step.indexAddr tb k rfl (Op1.of rfl (by first | exact fun _ => rfl | exact fun h => h | exact fun h => bL h | exact fun h => bL (bL h) | exact fun h => bL (bL (bL h)))) (Op1.of rfl (by first | exact fun _ => rfl | exact fun h => h | exact fun h => bL h | exact fun h => bL (bL h) | exact fun h => bL (bL (bL h)))) rfl rfl (fun _ => ⟨_, hv⟩) (fun _ => ⟨by omega, by simpa using hlt⟩) rfl ?_)
    refine GL.cons (Step.fieldAddr tb rfl (Op1.of rfl (by first | exact fun _ => rfl | exact fun h => h | exact fun h => bL h | exact fun h => bL (bL h) | exact fun h => bL (bL (bL h)))) rfl rfl rfl rfl (fun _ => (hv.elem (Labs.get hlt)).ptr) rfl ?_)
    refine GL.cons (Step.load1 tb rfl (Op1.of rfl (by first | exact fun _ => rfl | exact fun h => h | exact fun h => bL h | exact fun h => bL (bL h) | exact fun h => bL (bL (bL h)))) rfl rfl (fun _ => (hv.elem (Labs.get hlt)).cell (i := 0) rfl) rfl ?_)
    refine rg ?_
    first | refine G.condD rfl (fun hc => ?_) (fun hc => ?_) | refine G.condN rfl (fun hc => ?_) (fun hc => ?_) | refine G.cond rfl (fun hc => ?_) (fun hc => ?_)
    · refine rg ?_
      refine GL.cons (Step.indexAddr tb k rfl (Op1.of rfl (by first | exact fun _ => rfl | exact fun h => h | exact fun h => bL h | exact fun h => bL (bL h) | exact fun h => bL (bL (bL h)))) (Op1.of rfl (by first | exact fun _ => rfl | exact fun h => h | exact fun h => bL h | exact fun h => bL (bL h) | exact fun h => bL (bL (bL h)))) rfl rfl (fun _ => ⟨_, hv⟩) (fun _ => ⟨by omega, by simpa using hlt⟩) rfl ?_)
      refine GL.cons (Step.fieldAddr tb rfl (Op1.of rfl (by first | exact fun _ => rfl | exact fun h => h | exact fun h => bL h | exact fun h => bL (bL h) | exact fun h => bL (bL (bL h)))) rfl rfl rfl rfl (fun _ => (hv.elem (Labs.get hlt)).ptr) rfl ?_)
      refine GL.cons (Step.load1 tb rfl (Op1.of rfl (by first | exact fun _ => rfl | exact fun h => h | exact fun h => bL h | exact fun h => bL (bL h) | exact fun h => bL (bL (bL h)))) rfl rfl (fun _ => (hv.elem (Labs.get hlt)).cell (i := 1) rfl) rfl ?_)
      refine rg ?_
      refine G.ret1 rfl rfl rfl rfl ?_
      refine ⟨?_, Ext.refl _⟩
      rw [← hto]; simp only [getL]; rw [if_pos hc]
    · refine rg ?_
      refine GL.cons (Step.arith rfl (Op1.of rfl (by first | exact fun _ => rfl | exact fun h => h | exact fun h => bL h | exact fun h => bL (bL h) | exact fun h => bL (bL (bL h)))) (Op1.of rfl (by first | exact fun _ => rfl | exact fun h => h | exact fun h => bL h | exact fun h => bL (bL h) | exact fun h => bL (bL (bL h)))) (wrap_i64 (by omega) (by omega)) rfl ?_)
      refine rg ?_
      refine G.lp (k + 1) (by repeat (first | exact Sub.nil _ | refine Sub.cons rfl ?_)) ⟨rfl, by omega, ?_⟩ (by omega)
      rw [← hto]; simp only [getL]; rw [if_neg hc]
  · refine rg ?_
    refine G.ret1 rfl rfl rfl rfl ?_
    refine ⟨?_, Ext.refl _⟩
    obtain rfl : k = ls.length := by omega
    rw [List.drop_length] at hto; rw [← hto]; rfl

end Go.Proofs.YtcngoccnfmhhnaaGreatDoor.Lab
end
