/- Loops whose rounds range over functions (each leaves a record to be taken up at the return); quotients and remainders. -/
import Derived.Test.YtfffblopkaandaaDoorV18
namespace Go.Vg
open Go.RowKit

section steps
variable {X : Cx} {ops : Array Oper} {l : List Oper} {k : List Kt} {e : Env} {w : World} {N : Env → World → Prop} {d : Nat} {c : Option Bool} {ty : TypeId} {pos : String} {af : Array Edge} {g : Option (Nat × Bool)}
theorem Step.rem {xt yt : TypeId} {x y : Operand} {q : IntKind} {a b r : Int} (hg : guardE ops e ⟨some d, .binOp .rem xt x y yt, ty, pos, af, g⟩ = some c)
    (hx : Op1 e c x (.int q a)) (hy : Op1 e c y (.int q b)) (hb : cv c = true → b ≠ 0) (hr : a.tmod b = r) (hn : Nat.blt d X.n = true)
    (h : N ((d, c, .int q r) :: e) w) : Step X ops ⟨some d, .binOp .rem xt x y yt, ty, pos, af, g⟩ e w N :=
  Step.quiet rfl (by simpa [Nat.blt_eq] using hn) hg (fun _ hh => by cases hh) (fun t hf hc => by
    have h0 := hb hc
    simp only [execOp, hx.val hf hc, hy.val hf hc]
    simp [go_sem, Op.intDiv, h0, hr]) h
theorem Step.quo {xt yt : TypeId} {x y : Operand} {q : IntKind} {a b r : Int} (hg : guardE ops e ⟨some d, .binOp .quo xt x y yt, ty, pos, af, g⟩ = some c)
    (hx : Op1 e c x (.int q a)) (hy : Op1 e c y (.int q b)) (hb : cv c = true → b ≠ 0) (hr : q.wrap (a.tdiv b) = r) (hn : Nat.blt d X.n = true)
    (h : N ((d, c, .int q r) :: e) w) : Step X ops ⟨some d, .binOp .quo xt x y yt, ty, pos, af, g⟩ e w N :=
  Step.quiet rfl (by simpa [Nat.blt_eq] using hn) hg (fun _ hh => by cases hh) (fun t hf hc => by
    have h0 := hb hc
    simp only [execOp, hx.val hf hc, hy.val hf hc]
    simp [go_sem, Op.intDiv, h0, hr]) h
theorem sRem {xt yt : TypeId} {x y : Operand} {q : IntKind} {a b r : Int} (hr : a.tmod b = r) (h : GL X ops l k ((d, c, .int q r) :: e) w) (hg : guardE ops e ⟨some d, .binOp .rem xt x y yt, ty, pos, af, g⟩ = some c := by exact rfl)
    (hx : Op1 e c x (.int q a) := by exact Op1.of rfl (by first | exact fun _ => rfl | exact fun h => h | exact fun h => bL h)) (hy : Op1 e c y (.int q b) := by exact Op1.of rfl (by first | exact fun _ => rfl | exact fun h => h | exact fun h => bL h))
    (hb : cv c = true → b ≠ 0 := by intro _; omega) (hn : Nat.blt d X.n = true := by exact rfl) :
    GL X ops (⟨some d, .binOp .rem xt x y yt, ty, pos, af, g⟩ :: l) k e w := GL.cons (Step.rem hg hx hy hb hr hn h)
theorem sQuo {xt yt : TypeId} {x y : Operand} {q : IntKind} {a b r : Int} (hr : q.wrap (a.tdiv b) = r) (h : GL X ops l k ((d, c, .int q r) :: e) w) (hg : guardE ops e ⟨some d, .binOp .quo xt x y yt, ty, pos, af, g⟩ = some c := by exact rfl)
    (hx : Op1 e c x (.int q a) := by exact Op1.of rfl (by first | exact fun _ => rfl | exact fun h => h | exact fun h => bL h)) (hy : Op1 e c y (.int q b) := by exact Op1.of rfl (by first | exact fun _ => rfl | exact fun h => h | exact fun h => bL h))
    (hb : cv c = true → b ≠ 0 := by intro _; omega) (hn : Nat.blt d X.n = true := by exact rfl) :
    GL X ops (⟨some d, .binOp .quo xt x y yt, ty, pos, af, g⟩ :: l) k e w := GL.cons (Step.quo hg hx hy hb hr hn h)
/-- a function that is there is not nil -/
theorem Step.eqNF (T : Tb X.P) {xt yt : TypeId} {x y : Operand} {fn : Fn} {fi ca : Array Value} {ps rs : Array TypeId} {vd : Bool} (hg : guardE ops e ⟨some d, .binOp .eql xt x y yt, ty, pos, af, g⟩ = some c)
    (hx : Op1 e c x (.func fn fi ca)) (hy : Op1 e c y .nilFunc) (ht : T.ty xt = some (.func ps rs vd)) (hn : Nat.blt d X.n = true)
    (h : N ((d, c, .bool false) :: e) w) : Step X ops ⟨some d, .binOp .eql xt x y yt, ty, pos, af, g⟩ e w N :=
  Step.quiet rfl (by simpa [Nat.blt_eq] using hn) hg (fun _ hh => by cases hh) (fun t hf hc => by
    have hT := T.ok _ _ ht
    have h1 : (eqGuard .eql xt x y (.func fn fi ca) .nilFunc).run X.P w = .ok () w := by simp [eqGuard]
    have he : ∀ (n : Nat) (w : World), (Op.equalIn (n + 1) xt (.func fn fi ca) .nilFunc).run X.P w = .ok false w := fun n w => by
      simp [Op.equalIn, run_underlying hT]
    have hm : Op.maxDepth = 9999 + 1 := rfl
    have h2 : (binOp .eql xt (.func fn fi ca) .nilFunc).run X.P w = .ok (.bool false) w := by
      simp only [binOp, Op.equal, hm, Sem.run_bind, he, Sem.run_map, Result.andThen_ok, Sem.run_pure]
    simp only [execOp, hx.val hf hc, hy.val hf hc, Sem.run_bind, h1, h2, Result.andThen_ok, Sem.run_pure]) h
theorem sEqnf (T : Tb X.P) {xt yt : TypeId} {x y : Operand} {fn : Fn} {fi ca : Array Value} {ps rs : Array TypeId} {vd : Bool} (h : GL X ops l k ((d, c, .bool false) :: e) w) (hg : guardE ops e ⟨some d, .binOp .eql xt x y yt, ty, pos, af, g⟩ = some c := by exact rfl)
    (hx : Op1 e c x (.func fn fi ca) := by exact Op1.of rfl (by first | exact fun _ => rfl | exact fun h => h)) (hy : Op1 e c y .nilFunc := by exact Op1.of rfl (by first | exact fun _ => rfl | exact fun h => h)) (ht : T.ty xt = some (.func ps rs vd) := by exact rfl) (hn : Nat.blt d X.n = true := by exact rfl) :
    GL X ops (⟨some d, .binOp .eql xt x y yt, ty, pos, af, g⟩ :: l) k e w := GL.cons (Step.eqNF T hg hx hy ht hn h)
end steps

theorem Df.lt {r : Nat} {w : World} (h : Df r w) : r < w.heap.size := (Array.getElem?_eq_some_iff.1 h).1
theorem Df.kept {l r : Nat} {w w' : World} (h : Df r w) (hk : Kept l w w') : Df r w' := hk.block h (fun _ hh => by cases hh)

/-- records of loops over functions -/
def col (r : Nat) : Deferred := ⟨.collected r, #[]⟩
def outs : List Nat → World → World
  | [], w => w
  | r :: rs, w => outs rs (outW r w)
theorem Df.outW {r r' : Nat} {w : World} (h : Df r w) (hne : r ≠ r') : Df r (outW r' w) := by
  unfold Df at *
  rw [World.putObj_heap_other hne]; exact h
theorem Bx.outs {b : Nat} {us : List Value} : ∀ {rs : List Nat} {w : World}, Bx w b us → (∀ r ∈ rs, Df r w) → rs.Nodup → Bx (outs rs w) b us
  | [], _, h, _, _ => h
  | r :: rs, w, h, hD, hn => by
    have hn' := List.nodup_cons.1 hn
    exact Bx.outs (rs := rs) (w := outW r w) (h.out (hD r (by simp))) (fun x hx => (hD x (by simp [hx])).outW (fun e => hn'.1 (by rw [← e]; exact hx))) hn'.2
theorem below_outs {B : Nat} {w0 : World} : ∀ {rs : List Nat} {w : World}, Below B w0 w → (∀ r ∈ rs, B ≤ r) → Below B w0 (outs rs w)
  | [], _, h, _ => h
  | r :: rs, w, h, hB => below_outs (rs := rs) (w := outW r w) (h.wr (outW_wr r w) (hB r (by simp))) (fun x hx => hB x (by simp [hx]))
theorem leaveN {P : Program} {fn : Func} {R : Value → World → Prop} {t : Array Value} : ∀ (rs : List Nat) (w : World), (∀ r ∈ rs, Df r w) → rs.Nodup →
    (∃ v, (results fn t).run P (outs rs w) = .ok v (outs rs w) ∧ R v (outs rs w)) →
    LeavesInM (FW none) 0 P fn t (fun en w' => ∃ v, en = .returned v ∧ R v w') (rs.map col) .returning w
  | [], _, _, _, h => leave0 h
  | r :: rs, w, hD, hn, h => by
    have hn' := List.nodup_cons.1 hn
    exact ⟨by simp, .inl ⟨r, _, rfl, run_takeDeferred (hD r (by simp)), leaveN rs _ (fun x hx => (hD x (by simp [hx])).outW (fun e => hn'.1 (by rw [← e]; exact hx))) hn'.2 h⟩⟩
theorem G.retN {X : Cx} {k : List Kt} {e : Env} {w : World} {P : Program} {fn : Func} {R : Value → World → Prop} (rs : List Nat) (hX : X.fin = retFinM P fn R) (hds : X.ds = rs.map col) (hd : ∀ r ∈ rs, Df r w) (hn : rs.Nodup)
    (h : ∀ t, Fits X.n e t → ∃ v, (results fn t).run P (outs rs w) = .ok v (outs rs w) ∧ R v (outs rs w)) : G X (.code .ret :: k) e w := by
  refine G.ret fun t ht => ?_
  rw [hX, hds]
  exact leaveN rs w hd hn (h t ht)

theorem post_out {ρ : Option Nat} {P : Program} {fin : Exit → Act → World → Prop} {id : Nat} {a : Act} {w : World} : ∀ {k : List Kt}, outK id k = none → fin (.exit id) a w → post ρ P fin k (.exit id) a w
  | [], _, h => h
  | .code _ :: k, hk, h => post_out (k := k) hk h
  | .lp _ :: k, hk, h => post_out (k := k) hk h
  | .blk id' :: k, hk, h => by
    simp only [outK] at hk
    simp only [post]
    cases hb : Nat.beq id id' with
    | true => rw [hb] at hk; cases hk
    | false =>
      rw [hb] at hk
      rw [if_neg (Nat.ne_of_beq_eq_false hb)]
      exact post_out hk h
/-- a jump that leads out of all that is left here -/
theorem G.exitOut {X : Cx} {k : List Kt} {e : Env} {w : World} {id : Nat} (hk : outK id k = none) (h : ∀ t, Fits X.n e t → X.fin (.exit id) ⟨t, X.ds⟩ w) : G X (.code (.exit id) :: k) e w :=
  fun t ht => wpIn_exit (post_out hk (h t ht))
/-- a loop whose rounds may leave records -/
def LoopJ {α : Type} (n : Nat) (E : α → Env) (D : α → List Deferred) (W : α → World → Prop) (x : α) (a : Act) (w : World) : Prop := a.defers = D x ∧ Fits n (E x) a.tmps ∧ W x w
open Classical in
noncomputable def leastν {α : Type} (n : Nat) (E : α → Env) (D : α → List Deferred) (W : α → World → Prop) (μ : α → Nat) (a : Act) (w : World) : Nat :=
  if h : ∃ m, ∃ x, LoopJ n E D W x a w ∧ μ x = m then Classical.choose (exists_least h) else 0
theorem G.loopD {X : Cx} {k : List Kt} {e : Env} {w : World} {c : Code} {α : Type} (E : α → Env) (D : α → List Deferred) (W : α → World → Prop) (μ : α → Nat) (x0 : α) (hd : X.ds = D x0) (hs : Sub (E x0) e) (hw : W x0 w)
    (round : ∀ x w, W x w → G ⟨X.ρ, X.P, X.fin, X.n, D x⟩ (.code c :: .lp (fun a' w' => ∃ x', LoopJ X.n E D W x' a' w' ∧ μ x' < μ x) :: k) (E x) w) :
    G X (.code (.loop c) :: k) e w := by
  intro t ht
  refine wpIn_loop (fun a w => ∃ x, LoopJ X.n E D W x a w) (leastν X.n E D W μ) ⟨x0, hd, ht.sub hs, hw⟩ ?_
  rintro a w ⟨x, hx⟩
  have hex : ∃ m, ∃ x, LoopJ X.n E D W x a w ∧ μ x = m := ⟨_, x, hx, rfl⟩
  have hm : leastν X.n E D W μ a w = Classical.choose (exists_least hex) := by unfold leastν; rw [dif_pos hex]
  obtain ⟨⟨y, hy, hμ⟩, _⟩ := Classical.choose_spec (exists_least hex)
  rw [← hm] at hμ
  obtain ⟨hd, hf, hW⟩ := hy
  have := round y w hW a.tmps hf
  rw [← hd] at this
  refine wpIn_mono this ?_
  intro ex a' w' hq
  cases ex <;> try exact hq
  obtain ⟨x', hx', hlt⟩ := hq
  refine ⟨⟨x', hx'⟩, ?_⟩
  have hex' : ∃ m, ∃ x, LoopJ X.n E D W x a' w' ∧ μ x = m := ⟨_, x', hx', rfl⟩
  have hm' : leastν X.n E D W μ a' w' = Classical.choose (exists_least hex') := by unfold leastν; rw [dif_pos hex']
  obtain ⟨_, hleast⟩ := Classical.choose_spec (exists_least hex')
  rw [← hm'] at hleast
  have := hleast (μ x')
  rw [← hμ]
  refine Nat.lt_of_le_of_lt (Nat.le_of_not_lt fun h => this h ⟨x', hx', rfl⟩) hlt
theorem G.lpD {X : Cx} {k : List Kt} {e : Env} {w : World} {α : Type} {n : Nat} {E : α → Env} {D : α → List Deferred} {W : α → World → Prop} {μ : α → Nat} {x : α} (x' : α) (hn : X.n = n) (hd : X.ds = D x') (hs : Sub (E x') e) (hw : W x' w) (hμ : μ x' < μ x) :
    G X (.lp (fun a' w' => ∃ x', LoopJ n E D W x' a' w' ∧ μ x' < μ x) :: k) e w :=
  fun _ ht => ⟨x', ⟨hd, hn ▸ ht.sub hs, hw⟩, hμ⟩
end Go.Vg
