/- A region that draws its order, over abstract frames: operations that only read are taken first, the others come up as they are ready. -/
import Derived.Test.YtfffblopkaandaaDoorV4
namespace Go.Vg

def noQ : Exit → Act → World → Prop := fun _ _ _ => False

def wpAnyS (ρ : Option Nat) (P : Program) (ops : Array Oper) (Q : Act → World → Prop) (S : World → Prop) : Nat → Array Bool → Act → World → Prop
  | 0, listed, a, w => Region.ready .any ops listed = [] ∧ Q a w
  | fuel + 1, listed, a, w =>
    (Region.ready .any ops listed = [] → Q a w) ∧
    ∀ i ∈ Region.ready .any ops listed, wpOpIn (FW ρ) 0 P ops noQ i (fun a' w' => S w' ∧ wpAnyS ρ P ops Q S fuel (listed.setIfInBounds i true) a' w') a w

section
variable {ρ : Option Nat} {P : Program} {ops : Array Oper} {Q : Act → World → Prop} {S : World → Prop}

theorem uponIn_mono {o : Oper} {a a' : Act} {K K' : Act → World → Prop} {Q' : Exit → Act → World → Prop} {r : Result Next}
    (hd : ∀ v w, K (a.put o.dst v) w → K' (a'.put o.dst v) w) (hdd : ∀ d w, K ({ a with defers := d :: a.defers }.put o.dst undef) w → K' ({ a' with defers := d :: a'.defers }.put o.dst undef) w)
    (h : o.uponIn (FW ρ) 0 P a K noQ r) : o.uponIn (FW ρ) 0 P a' K' Q' r := by
  cases r with
  | halt x w' => cases x <;> exact h.elim
  | ok x w' =>
    cases x <;> try exact h.elim
    case value v => exact hd _ _ h
    case skip => exact hd _ _ h
    case defer d => exact hdd _ _ h
    case enter f args =>
      refine ⟨h.1, h.2.mono fun en w'' hr => ?_⟩
      cases en with
      | returned v => exact hd _ _ hr
      | panicked c => exact hr.elim
      | outgrown => obtain ⟨_, _, hx⟩ := hr; exact hx.elim
    case row f args => exact ⟨h.1, h.2.mono fun v w'' hr => hd _ _ hr⟩
    case round l f tmps as bd =>
      refine ⟨h.1, h.2.mono fun en w'' hr => ?_⟩
      cases en with
      | returned v => exact hd _ _ hr
      | panicked c => exact hr.elim
      | outgrown => obtain ⟨_, _, hx⟩ := hr; exact hx.elim

theorem wpOpIn_mono' {Q' : Exit → Act → World → Prop} {i : Nat} {a : Act} {w : World} {K K' : Act → World → Prop} (h : ∀ a w, K a w → K' a w)
    (hh : wpOpIn (FW ρ) 0 P ops noQ i K a w) : wpOpIn (FW ρ) 0 P ops Q' i K' a w := by
  unfold wpOpIn at *
  split
  · rename_i ho; simp only [ho] at hh; exact h _ _ hh
  · rename_i o ho
    simp only [ho] at hh
    split
    · rename_i hw
      rw [if_pos hw] at hh
      exact ⟨hh.1, uponIn_mono (fun _ _ hk => h _ _ hk) (fun _ _ hk => h _ _ hk) hh.2⟩
    · rename_i hw
      rw [if_neg hw] at hh
      exact ⟨hh.1, h _ _ hh.2⟩

theorem wpAnyS_any {Q' : Exit → Act → World → Prop} (hQ : ∀ a w, Q a w → Q' .normal a w) : ∀ (fuel : Nat) (listed : Array Bool) (a : Act) (w : World), wpAnyS ρ P ops Q S fuel listed a w →
    wpAnyIn (FW ρ) 0 P .any ops Q' fuel listed a w
  | 0, _, _, _, h => ⟨h.1, hQ _ _ h.2⟩
  | fuel + 1, _, _, _, h => ⟨fun hr => hQ _ _ (h.1 hr), fun i hi => wpOpIn_mono' (fun a' w' hk => wpAnyS_any hQ fuel _ a' w' hk.2) (h.2 i hi)⟩

/-- in every world of the class the operation yields v, and turns nothing -/
def YieldsS (ρ : Option Nat) (P : Program) (ops : Array Oper) (S : World → Prop) (o : Oper) (v : Value) (a : Act) : Prop :=
  (Region.wanted o (yielded ops a.tmps) = true ∧ ∀ w, S w → o.uponIn (FW ρ) 0 P a (fun a' w' => a' = a.put o.dst v ∧ w' = w) noQ ((execOp a.eval o).run P w)) ∨
  (Region.wanted o (yielded ops a.tmps) = false ∧ v = undef)

theorem YieldsS.op {i : Nat} {o : Oper} {v : Value} {a : Act} {w : World} {K : Act → World → Prop} (hnd : ∀ c, o.op ≠ .defer c) (hi : ops[i]? = some o) (hy : YieldsS ρ P ops S o v a) (hS : S w)
    (hK : K (a.put o.dst v) w) : wpOpIn (FW ρ) 0 P ops noQ i K a w := by
  unfold wpOpIn
  rw [hi]
  rcases hy with ⟨hw, hy⟩ | ⟨hw, rfl⟩
  · simp only [hw, if_true]
    refine ⟨fun _ _ => trivial, ?_⟩
    rw [Oper.semAt_eq _ _ _ hnd]
    refine uponIn_mono (fun u w' hk => ?_) (fun d w' hk => ?_) (hy w hS)
    · rw [hk.1, hk.2]; exact hK
    · rw [hk.1, hk.2]; exact hK
  · simp only [hw, Bool.false_eq_true, if_false]
    exact ⟨fun _ _ => trivial, hK⟩

theorem wpAnyS_first {i : Nat} {oi : Oper} {v : Value} (hi : ops[i]? = some oi) (hsel : ∀ (j : Nat) (o : Oper) cs b, ops[j]? = some o → o.op ≠ .select cs b)
    (hndf : ∀ (j : Nat) (o : Oper) c, ops[j]? = some o → o.op ≠ .defer c) :
    ∀ (fuel : Nat) (listed : Array Bool) (a : Act) (w : World),
      (∀ j oj, ops[j]? = some oj → j ≠ i → listed.getD j true = false → (∀ e ∈ oj.after, Region.binds .any e = true → e.on ≠ i) → oi.apart ops oj = true) →
      i ∈ Region.ready .any ops listed → YieldsS ρ P ops S oi v a → S w →
      wpAnyS ρ P ops Q S fuel (listed.setIfInBounds i true) (a.put oi.dst v) w → wpAnyS ρ P ops Q S (fuel + 1) listed a w := by
  intro fuel
  induction fuel with
  | zero =>
    intro listed a w _ hr hy hS H
    refine ⟨fun h => (by rw [h] at hr; cases hr), fun j hj => ?_⟩
    by_cases hji : j = i
    · subst hji; exact hy.op (fun c => hndf _ _ c hi) hi hS ⟨hS, H⟩
    · have := ready_mono hj hji
      rw [H.1] at this
      cases this
  | succ fuel ih =>
    intro listed a w hfree hr hy hS H
    refine ⟨fun h => (by rw [h] at hr; cases hr), fun j hj => ?_⟩
    by_cases hji : j = i
    · subst hji; exact hy.op (fun c => hndf _ _ c hi) hi hS ⟨hS, H⟩
    · have hjr := mem_ready.1 hj
      obtain ⟨hjun, oj, hoj, hall⟩ := hjr
      have hnot : ∀ e ∈ oj.after, Region.binds .any e = true → e.on ≠ i := fun e he hb heq => by
        have h1 := hall e he hb
        have h0 := (mem_ready.1 hr).1
        rw [heq] at h1
        rcases Nat.lt_or_ge i listed.size with h' | h'
        · simp [h'] at h0 h1; rw [h0] at h1; cases h1
        · simp [Array.getElem?_eq_none h'] at h1
      have hap := hfree j oj hoj hji hjun hnot
      obtain ⟨h1, h2, h3⟩ := Oper.apart_spec hap
      have H2 := H.2 j (ready_mono hj hji)
      -- what the rest asks of the frame
      have keep : ∀ (b : Act) (u : Value), YieldsS ρ P ops S oi v b → YieldsS ρ P ops S oi v (b.put oj.dst u) := by
        intro b u hyb
        rcases hyb with ⟨hw, hyb⟩ | ⟨hw, hv⟩
        · refine .inl ⟨by rw [wanted_put oi b oj.dst u h3]; exact hw, fun w' hw' => ?_⟩
          rw [execOp_put oi (fun cs b => hsel i oi cs b hi) b oj.dst u h3]
          have := hyb w' hw'
          revert this
          generalize (execOp b.eval oi).run P w' = r
          intro hr2
          refine uponIn_mono (a := b) (fun v' w2 hk => ⟨?_, hk.2⟩) (fun d w2 hk => ⟨?_, hk.2⟩) hr2
          · have e := hk.1
            rw [Act.put_comm b u v' (fun d hd => fun hx => h2 d hx hd), Act.put_comm b u v (fun d hd => fun hx => h2 d hx hd), e]
          · exfalso
            have e : (d :: b.defers).length = b.defers.length := by
              have e := congrArg (fun x : Act => x.defers.length) hk.1
              cases hdd : oi.dst <;> rw [hdd] at e <;> exact e
            simp at e
        · exact .inr ⟨by rw [wanted_put oi b oj.dst u h3]; exact hw, hv⟩
      have hfree' : ∀ k ok, ops[k]? = some ok → k ≠ i → (listed.setIfInBounds j true).getD k true = false →
          (∀ e ∈ ok.after, Region.binds .any e = true → e.on ≠ i) → oi.apart ops ok = true := fun k ok hk hki hun hno => by
        refine hfree k ok hk hki ?_ hno
        by_cases hjk : j = k
        · subst hjk; exact hjun
        · rw [getD_set_ne true hjk] at hun; exact hun
      have step : ∀ (b : Act) (w' : World), YieldsS ρ P ops S oi v b → S w' ∧ wpAnyS ρ P ops Q S fuel ((listed.setIfInBounds i true).setIfInBounds j true) (b.put oi.dst v) w' →
          S w' ∧ wpAnyS ρ P ops Q S (fuel + 1) (listed.setIfInBounds j true) b w' := fun b w' hyb hk =>
        ⟨hk.1, ih _ b w' hfree' (ready_mono hr (Ne.symm hji)) hyb hk.1 (by rw [Array.setIfInBounds_comm _ _ hji]; exact hk.2)⟩
      unfold wpOpIn at H2 ⊢
      rw [hoj] at H2 ⊢
      simp only at H2 ⊢
      rw [wanted_put oj a oi.dst v h1] at H2
      split
      · rename_i hw
        rw [if_pos hw] at H2
        refine ⟨fun _ _ => trivial, ?_⟩
        have H3 := H2.2
        rw [Oper.semAt_eq _ _ _ (fun c => hndf _ _ c hoj)] at H3 ⊢
        rw [execOp_put oj (fun cs b => hsel j oj cs b hoj) a oi.dst v h1] at H3
        have hnd2 : ∀ c, oj.op ≠ .defer c := fun c => hndf _ _ c hoj
        revert H3
        generalize hrr : (execOp a.eval oj).run P w = r
        intro H3
        cases r with
        | halt x w' => cases x <;> exact H3.elim
        | ok x w' =>
          cases x <;> try exact H3.elim
          case value u => exact step _ _ (keep a u hy) (by rw [← Act.put_comm a v u h2]; exact H3)
          case skip => exact step _ _ (keep a undef hy) (by rw [← Act.put_comm a v undef h2]; exact H3)
          case defer d =>
            refine step _ _ (keep _ undef ?_) ?_
            · rcases hy with ⟨hwi, hyi⟩ | ⟨hwi, hv⟩
              · refine .inl ⟨hwi, fun w2 hw2 => ?_⟩
                have := hyi w2 hw2
                refine uponIn_mono (a := a) (a' := { a with defers := d :: a.defers }) (fun u w3 hk => ⟨?_, hk.2⟩) (fun d' w3 hk => ⟨?_, hk.2⟩) this
                · have e := congrArg Act.tmps hk.1
                  have e2 := congrArg Act.defers hk.1
                  cases hdd : oi.dst <;> rw [hdd] at e <;> simp_all [Act.put]
                · exfalso
                  have e : (d' :: a.defers).length = a.defers.length := by
                    have e := congrArg (fun x : Act => x.defers.length) hk.1
                    cases hdd : oi.dst <;> rw [hdd] at e <;> exact e
                  simp at e
              · exact .inr ⟨hwi, hv⟩
            · rw [← Act.put_comm _ v undef h2, ← Act.put_defers]; exact H3
          case enter f args =>
            refine ⟨H3.1, H3.2.mono fun en w'' hr3 => ?_⟩
            cases en with
            | returned u => exact step _ _ (keep a u hy) (by rw [← Act.put_comm a v u h2]; exact hr3)
            | panicked c => exact hr3
            | outgrown => exact hr3
          case row f args => exact ⟨H3.1, H3.2.mono fun u w'' hr3 => step _ _ (keep a u hy) (by rw [← Act.put_comm a v u h2]; exact hr3)⟩
          case round =>
            refine ⟨H3.1, H3.2.mono fun en w'' hr3 => ?_⟩
            cases en with
            | returned u => exact step _ _ (keep a u hy) (by rw [← Act.put_comm a v u h2]; exact hr3)
            | panicked c => exact hr3
            | outgrown => exact hr3
      · rename_i hw
        rw [if_neg hw] at H2
        exact ⟨fun _ _ => trivial, step _ _ (keep a undef hy) (by rw [← Act.put_comm a v undef h2]; exact H2.2)⟩
end

/-- a drawn region's operations that are left -/
def GA (X : Cx) (ops : Array Oper) (S : World → Prop) (fuel : Nat) (listed : Array Bool) (k : List Kt) (e : Env) (w : World) : Prop :=
  ∀ t, Fits X.n e t → S w → wpAnyS X.ρ X.P ops (fun a w => post X.ρ X.P X.fin k .normal a w) S fuel listed ⟨t, X.ds⟩ w

def plainOps (ops : Array Oper) : Bool := Region.noSelect ops && ops.all fun o => match o.op with | .defer _ => false | _ => true
theorem plainOps_defer {ops : Array Oper} (h : plainOps ops = true) (j : Nat) (o : Oper) (c : Call) (ho : ops[j]? = some o) : o.op ≠ .defer c := by
  intro heq
  unfold plainOps at h
  have h2 := Array.all_eq_true_iff_forall_mem.1 (bR h) o (Array.mem_of_getElem? ho)
  simp [heq] at h2

section
variable {X : Cx} {S : World → Prop} {fuel : Nat} {listed : Array Bool} {k : List Kt} {e : Env} {w : World} {ops : Array Oper}

theorem G.regionD (S : World → Prop) {id : Nat} {l : List Oper} (hm : X.P.follows .mixedOrders = true) (hS : S w.drew)
    (h : GA X l.toArray S l.length (Array.replicate l.length false) k e w.drew) : G X (.code (.region id l.toArray true) :: k) e w := by
  intro t hf
  refine wpIn_region_any hm ?_
  have := h t hf hS
  refine wpAnyS_any (S := S) (Q := fun a w => post X.ρ X.P X.fin k .normal a w) (fun _ _ h => h) _ _ _ _ ?_
  simpa using this

theorem GA.done (hr : Region.ready .any ops listed = []) (h : G X k e w) : GA X ops S fuel listed k e w := by
  intro t hf _
  cases fuel with
  | zero => exact ⟨hr, h t hf⟩
  | succ f => exact ⟨fun _ => h t hf, fun i hi => by rw [hr] at hi; cases hi⟩

theorem step_op {o : Oper} {j : Nat} {N : Env → World → Prop} {K : Act → World → Prop} (ho : ops[j]? = some o) (h : Step X ops o e w N) {t : Array Value} (hf : Fits X.n e t)
    (hK : ∀ e' w' t', N e' w' → Fits X.n e' t' → K ⟨t', X.ds⟩ w') : wpOpIn (FW X.ρ) 0 X.P ops noQ j K ⟨t, X.ds⟩ w := by
  have := h t K noQ hf hK
  unfold wpOpIn
  rw [ho]
  simp only
  split
  · rename_i hw; rw [if_pos hw] at this; exact this
  · rename_i hw; rw [if_neg hw] at this; exact ⟨fun _ _ => trivial, this⟩

/-- the operations that may come up now, one by one -/
theorem GA.all {rs : List Nat} (hr : Region.ready .any ops listed = rs) (hne : rs ≠ [])
    (h : ∀ j ∈ rs, ∃ o, ops[j]? = some o ∧ Step X ops o e w (fun e' w' => S w' ∧ GA X ops S fuel (listed.setIfInBounds j true) k e' w')) : GA X ops S (fuel + 1) listed k e w := by
  intro t hf _
  refine ⟨fun h0 => absurd (hr ▸ h0) hne, fun j hj => ?_⟩
  rw [hr] at hj
  obtain ⟨o, ho, hs⟩ := h j hj
  exact step_op ho hs hf fun e' w' t' hN hf' => ⟨hN.1, hN.2 t' hf' hN.1⟩
theorem GA.one {j : Nat} {o : Oper} (hr : Region.ready .any ops listed = [j]) (ho : ops[j]? = some o)
    (h : Step X ops o e w (fun e' w' => S w' ∧ GA X ops S fuel (listed.setIfInBounds j true) k e' w')) : GA X ops S (fuel + 1) listed k e w :=
  GA.all hr (by simp) fun i hi => by simp only [List.mem_singleton] at hi; subst hi; exact ⟨o, ho, h⟩
theorem GA.two {i j : Nat} {o o' : Oper} (hr : Region.ready .any ops listed = [i, j]) (ho : ops[i]? = some o) (ho' : ops[j]? = some o')
    (h : Step X ops o e w (fun e' w' => S w' ∧ GA X ops S fuel (listed.setIfInBounds i true) k e' w'))
    (h' : Step X ops o' e w (fun e' w' => S w' ∧ GA X ops S fuel (listed.setIfInBounds j true) k e' w')) : GA X ops S (fuel + 1) listed k e w :=
  GA.all hr (by simp) fun x hx => by
    simp only [List.mem_cons, List.not_mem_nil, or_false] at hx
    rcases hx with rfl | rfl
    · exact ⟨o, ho, h⟩
    · exact ⟨o', ho', h'⟩

/-- an operation that only reads is taken first -/
theorem GA.take (i : Nat) {o : Oper} {d : Nat} {c : Option Bool} {v : Value} (ho : ops[i]? = some o) (hp : plainOps ops = true) (hfr : Region.free .any ops listed i = true)
    (hr : (Region.ready .any ops listed).contains i = true) (hd : o.dst = some d) (hn : Nat.blt d X.n = true)
    (h : ∀ w', S w' → Step X ops o e w' (fun e' w'' => e' = (d, c, v) :: e ∧ w'' = w'))
    (next : GA X ops S fuel (listed.setIfInBounds i true) k ((d, c, v) :: e) w) : GA X ops S (fuel + 1) listed k e w := by
  intro t hf hS
  have key : ∀ (u : Value) t', (Act.put ⟨t, X.ds⟩ o.dst u : Act) = ⟨t', X.ds⟩ → Fits X.n ((d, c, v) :: e) t' → u = gval c v ∧ Fits X.n ((d, c, v) :: e) (t.setIfInBounds d (gval c v)) := by
    intro u t' he hf'
    rw [hd] at he
    simp only [Act.put, Act.mk.injEq, and_true] at he
    subst he
    have hl : look ((d, c, v) :: e) d = some (c, v) := by simp [look]
    obtain ⟨hn', hg⟩ := hf'.get d c v hl
    have : u = gval c v := by rw [← hg]; simp [Array.getD_eq_getD_getElem?, hf.size, hn']
    subst this
    exact ⟨rfl, hf'⟩
  have hy : YieldsS X.ρ X.P ops S o (gval c v) ⟨t, X.ds⟩ := by
    by_cases hw : Region.wanted o (yielded ops t) = true
    · refine .inl ⟨hw, fun w' hS' => ?_⟩
      have := h w' hS' t (fun a' w'' => w'' = w' ∧ ∃ t', a' = ⟨t', X.ds⟩ ∧ Fits X.n ((d, c, v) :: e) t') noQ hf
        (fun e' w2 t' hN hf' => ⟨hN.2, t', rfl, hN.1 ▸ hf'⟩)
      rw [if_pos hw] at this
      have h2 := this.2
      rw [Oper.semAt_eq _ _ _ (fun c => plainOps_defer hp _ _ c ho)] at h2
      refine uponIn_mono (fun u w2 hk => ?_) (fun d' w2 hk => ?_) h2
      · obtain ⟨hw2, t', he, hf'⟩ := hk
        exact ⟨by rw [(key u t' he hf').1], hw2⟩
      · exfalso
        obtain ⟨_, t', he, _⟩ := hk
        have := congrArg (fun x : Act => x.defers.length) he
        rw [hd] at this
        simp [Act.put] at this
    · refine .inr ⟨by simpa using hw, ?_⟩
      have := h w hS t (fun a' w'' => w'' = w ∧ ∃ t', a' = ⟨t', X.ds⟩ ∧ Fits X.n ((d, c, v) :: e) t') noQ hf
        (fun e' w2 t' hN hf' => ⟨hN.2, t', rfl, hN.1 ▸ hf'⟩)
      rw [if_neg hw] at this
      obtain ⟨_, t', he, hf'⟩ := this
      exact (key undef t' he hf').1.symm
  have hfit : Fits X.n ((d, c, v) :: e) (t.setIfInBounds d (gval c v)) := hf.put (by simpa [Nat.blt_eq] using hn) c v
  refine wpAnyS_first ho (fun j o cs b hj => Region.noSelect_spec (bL hp) j o cs b hj) (fun j o c hj => plainOps_defer hp j o c hj) fuel listed _ w
    (fun j oj => Region.free_spec ho hfr j oj) (by simpa using hr) hy hS ?_
  have := next _ hfit hS
  simpa [Act.put, hd] using this
end
end Go.Vg
