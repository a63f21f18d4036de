/- The core of a walk over abstract frames: an environment says what some slots hold; every other slot is free. -/
import Derived.WalkKit
import Derived.RangeFuncLeaves
import Derived.RangeFuncCalls
import Derived.OrdersIn
namespace Go.Vg

/-- what slots hold: slot, condition (none: always; where it is false the slot is undef), value -/
abbrev Env := List (Nat × Option Bool × Value)

def look : Env → Nat → Option (Option Bool × Value)
  | [], _ => none
  | (k, c, v) :: e, t => match Nat.beq k t with
    | true => some (c, v)
    | false => look e t

def cv (c : Option Bool) : Bool := match c with | none => true | some b => b
def gval (c : Option Bool) (v : Value) : Value := match cv c with | true => v | false => undef

structure Fits (n : Nat) (e : Env) (t : Array Value) : Prop where
  size : t.size = n
  get : ∀ k c v, look e k = some (c, v) → k < n ∧ t.getD k undef = gval c v

theorem Fits.put {n : Nat} {e : Env} {t : Array Value} (h : Fits n e t) {d : Nat} (hd : d < n) (c : Option Bool) (v : Value) :
    Fits n ((d, c, v) :: e) (t.setIfInBounds d (gval c v)) := by
  refine ⟨by simpa using h.size, fun k c' v' hl => ?_⟩
  simp only [look] at hl
  cases hk : Nat.beq d k with
  | true =>
    rw [hk] at hl
    obtain rfl := Nat.eq_of_beq_eq_true hk
    simp only [Option.some.injEq, Prod.mk.injEq] at hl
    obtain ⟨rfl, rfl⟩ := hl
    refine ⟨hd, ?_⟩
    simp [Array.getD_eq_getD_getElem?, h.size, hd]
  | false =>
    rw [hk] at hl
    have hne : d ≠ k := Nat.ne_of_beq_eq_false hk
    obtain ⟨h1, h2⟩ := h.get k c' v' hl
    refine ⟨h1, ?_⟩
    rw [← h2]
    simp [Array.getD_eq_getD_getElem?, hne]

/-- e' says no more than e -/
def Sub (e' e : Env) : Prop := ∀ k c v, look e' k = some (c, v) → look e k = some (c, v)

theorem Fits.sub {n : Nat} {e e' : Env} {t : Array Value} (h : Fits n e t) (hs : Sub e' e) : Fits n e' t :=
  ⟨h.size, fun k c v hl => h.get k c v (hs k c v hl)⟩

theorem Sub.nil (e : Env) : Sub [] e := fun _ _ _ h => by cases h
theorem Sub.cons {e' e : Env} {k : Nat} {c : Option Bool} {v : Value} (h : look e k = some (c, v)) (hs : Sub e' e) : Sub ((k, c, v) :: e') e := by
  intro k' c' v' hl
  simp only [look] at hl
  cases hk : Nat.beq k k' with
  | true =>
    rw [hk] at hl
    obtain rfl := Nat.eq_of_beq_eq_true hk
    simp only [Option.some.injEq, Prod.mk.injEq] at hl
    obtain ⟨rfl, rfl⟩ := hl
    exact h
  | false => rw [hk] at hl; exact hs k' c' v' hl

/-- an operand's value -/
def ev (e : Env) : Operand → Option (Option Bool × Value)
  | .tmp t => look e t
  | .const v => some (none, v)
  | .global g => some (none, .pointer (some ⟨g, 0, none⟩))
  | .func f => some (none, .func (.func f) #[] #[])

theorem Fits.evg {n : Nat} {e : Env} {t : Array Value} {ds : List Deferred} (h : Fits n e t) {x : Operand} {c : Option Bool} {v : Value} (hx : ev e x = some (c, v)) :
    (Act.mk t ds).eval x = gval c v := by
  cases x with
  | tmp k => exact (h.get k c v hx).2
  | const u => simp only [Vg.ev, Option.some.injEq, Prod.mk.injEq] at hx; obtain ⟨rfl, rfl⟩ := hx; rfl
  | global g => simp only [Vg.ev, Option.some.injEq, Prod.mk.injEq] at hx; obtain ⟨rfl, rfl⟩ := hx; rfl
  | func f => simp only [Vg.ev, Option.some.injEq, Prod.mk.injEq] at hx; obtain ⟨rfl, rfl⟩ := hx; rfl

theorem Fits.ev1 {n : Nat} {e : Env} {t : Array Value} {ds : List Deferred} (h : Fits n e t) {x : Operand} {c : Option Bool} {v : Value} (hx : ev e x = some (c, v)) (hc : cv c = true) :
    (Act.mk t ds).eval x = v := by rw [h.evg hx]; unfold gval; rw [hc]

/-- the fence: anything, in a round or not -/
abbrev FW (ρ : Option Nat) : Fence := { Fence.wide with round := ρ }
theorem roomW (ρ : Option Nat) (n : Nat) : (FW ρ).room n := fun _ h => by simp [Fence.wide] at h

/-- what is still to be done behind a piece of code -/
inductive Kt where
  | code (c : Code)
  | blk (id : Nat)
  | lp (J : Act → World → Prop)

def post (ρ : Option Nat) (P : Program) (fin : Exit → Act → World → Prop) : List Kt → Exit → Act → World → Prop
  | [], ex, a, w => fin ex a w
  | .code c :: k, ex, a, w => match ex with
    | .normal => c.wpIn (FW ρ) 0 P (post ρ P fin k) a w
    | ex => post ρ P fin k ex a w
  | .blk id :: k, ex, a, w => match ex with
    | .exit id' => if id' = id then post ρ P fin k .normal a w else post ρ P fin k (.exit id') a w
    | ex => post ρ P fin k ex a w
  | .lp J :: k, ex, a, w => match ex with
    | .normal => J a w
    | ex => post ρ P fin k ex a w

/-- a walk's fixed surroundings: round, program, final condition, number of slots, deferred calls -/
structure Cx where
  ρ : Option Nat
  P : Program
  fin : Exit → Act → World → Prop
  n : Nat
  ds : List Deferred

def G (X : Cx) (k : List Kt) (e : Env) (w : World) : Prop := ∀ t, Fits X.n e t → post X.ρ X.P X.fin k .normal ⟨t, X.ds⟩ w

section control
variable {X : Cx} {k : List Kt} {e : Env} {w : World}

theorem G.sub {e' : Env} (hs : Sub e' e) (h : G X k e' w) : G X k e w := fun t ht => h t (ht.sub hs)

theorem G.seq {x y : Code} (h : G X (.code x :: .code y :: k) e w) : G X (.code (.seq x y) :: k) e w := by
  intro t ht
  refine wpIn_seq (wpIn_mono (h t ht) ?_)
  intro ex a w hq
  cases ex <;> exact hq

theorem G.skip (h : G X k e w) : G X (.code .skip :: k) e w := fun t ht => wpIn_skip (h t ht)
theorem G.label {l : Nat} (h : G X k e w) : G X (.code (.label l) :: k) e w := fun t ht => wpIn_label (h t ht)

theorem G.block {id : Nat} {c : Code} (h : G X (.code c :: .blk id :: k) e w) : G X (.code (.block id c) :: k) e w := by
  intro t ht
  refine wpIn_block (wpIn_mono (h t ht) ?_)
  intro ex a w hq
  cases ex <;> first | exact hq | skip
theorem G.blk {id : Nat} (h : G X k e w) : G X (.blk id :: k) e w := fun t ht => h t ht

/-- an undecided test -/
theorem G.condT {c : Operand} {x y : Code} (hc : ev e c = some (none, .bool true)) (h : G X (.code x :: k) e w) : G X (.code (.cond c x y) :: k) e w :=
  fun t hfit => wpIn_cond_true (hfit.evg hc) (h t hfit)
theorem G.condF {c : Operand} {x y : Code} (hc : ev e c = some (none, .bool false)) (h : G X (.code y :: k) e w) : G X (.code (.cond c x y) :: k) e w :=
  fun t hfit => wpIn_cond_false (hfit.evg hc) (h t hfit)
theorem G.condD {c : Operand} {x y : Code} {p : Prop} [Decidable p] (hc : ev e c = some (none, .bool (decide p))) (ht : p → G X (.code x :: k) e w)
    (hf : ¬ p → G X (.code y :: k) e w) : G X (.code (.cond c x y) :: k) e w := by
  intro t hfit
  exact wpIn_cond_split (hfit.evg hc) (fun h => ht (of_decide_eq_true h) t hfit) (fun h => hf (of_decide_eq_false h) t hfit)
theorem G.condN {c : Operand} {x y : Code} {p : Prop} [Decidable p] (hc : ev e c = some (none, .bool (!decide p))) (ht : ¬ p → G X (.code x :: k) e w)
    (hf : p → G X (.code y :: k) e w) : G X (.code (.cond c x y) :: k) e w := by
  intro t hfit
  refine wpIn_cond_split (hfit.evg hc) (fun h => ht ?_ t hfit) (fun h => hf ?_ t hfit)
  · intro hp; simp [hp] at h
  · simpa using h
theorem G.cond {c : Operand} {x y : Code} {b : Bool} (hc : ev e c = some (none, .bool b)) (ht : b = true → G X (.code x :: k) e w)
    (hf : b = false → G X (.code y :: k) e w) : G X (.code (.cond c x y) :: k) e w := by
  intro t hfit
  exact wpIn_cond_split (hfit.evg hc) (fun h => ht h t hfit) (fun h => hf h t hfit)

/-- where a jump out of a block leads -/
def outK (id : Nat) : List Kt → Option (List Kt)
  | [] => none
  | .blk id' :: k => match Nat.beq id id' with | true => some k | false => outK id k
  | _ :: k => outK id k

theorem post_exit {ρ : Option Nat} {P : Program} {fin : Exit → Act → World → Prop} {id : Nat} {a : Act} : ∀ {k k' : List Kt}, outK id k = some k' →
    post ρ P fin k' .normal a w → post ρ P fin k (.exit id) a w
  | [], _, h, _ => by cases h
  | .code c :: k, k', h, hq => post_exit (k := k) h hq
  | .lp J :: k, k', h, hq => post_exit (k := k) h hq
  | .blk id' :: k, k', h, hq => by
    simp only [outK] at h
    simp only [post]
    cases hb : Nat.beq id id' with
    | true =>
      rw [hb] at h
      obtain rfl := Nat.eq_of_beq_eq_true hb
      simp only [Option.some.injEq] at h; subst h
      simpa using hq
    | false =>
      rw [hb] at h
      rw [if_neg (Nat.ne_of_beq_eq_false hb)]
      exact post_exit h hq

theorem G.exit {id : Nat} {k' : List Kt} (hk : outK id k = some k') (h : G X k' e w) : G X (.code (.exit id) :: k) e w :=
  fun t ht => wpIn_exit (post_exit hk (h t ht))

theorem post_ret {ρ : Option Nat} {P : Program} {fin : Exit → Act → World → Prop} {a : Act} : ∀ {k : List Kt}, fin .ret a w → post ρ P fin k .ret a w
  | [], h => h
  | .code _ :: k, h => post_ret (k := k) h
  | .lp _ :: k, h => post_ret (k := k) h
  | .blk _ :: k, h => post_ret (k := k) h

theorem G.ret (h : ∀ t, Fits X.n e t → X.fin .ret ⟨t, X.ds⟩ w) : G X (.code .ret :: k) e w := fun t ht => wpIn_ret (post_ret (h t ht))
theorem G.nil (h : ∀ t, Fits X.n e t → X.fin .normal ⟨t, X.ds⟩ w) : G X [] e w := h

theorem exists_least {p : Nat → Prop} (h : ∃ m, p m) : ∃ m, p m ∧ ∀ k, k < m → ¬ p k := by
  obtain ⟨m, hm⟩ := h
  induction m using Nat.strongRecOn with
  | _ m ih =>
    by_cases hx : ∃ k, k < m ∧ p k
    · obtain ⟨k, hk, hp⟩ := hx; exact ih k hk hp
    · exact ⟨m, hm, fun k hk hp => hx ⟨k, hk, hp⟩⟩

/-- what holds at a loop's head -/
def LoopI {α : Type} (X : Cx) (E : α → Env) (W : α → World → Prop) (x : α) (a : Act) (w : World) : Prop := a.defers = X.ds ∧ Fits X.n (E x) a.tmps ∧ W x w

open Classical in
noncomputable def leastμ {α : Type} (X : Cx) (E : α → Env) (W : α → World → Prop) (μ : α → Nat) (a : Act) (w : World) : Nat :=
  if h : ∃ m, ∃ x, LoopI X E W x a w ∧ μ x = m then Classical.choose (exists_least h) else 0

/-- a loop: x : α stands for what varies -/
theorem G.loop {c : Code} {α : Type} (E : α → Env) (W : α → World → Prop) (μ : α → Nat) (x0 : α) (hs : Sub (E x0) e) (hw : W x0 w)
    (round : ∀ x w, W x w → G X (.code c :: .lp (fun a' w' => ∃ x', LoopI X E W x' a' w' ∧ μ x' < μ x) :: k) (E x) w) :
    G X (.code (.loop c) :: k) e w := by
  intro t ht
  refine wpIn_loop (fun a w => ∃ x, LoopI X E W x a w) (leastμ X E W μ) ⟨x0, rfl, ht.sub hs, hw⟩ ?_
  rintro a w ⟨x, hx⟩
  have hex : ∃ m, ∃ x, LoopI X E W x a w ∧ μ x = m := ⟨_, x, hx, rfl⟩
  have hm : leastμ X E W μ a w = Classical.choose (exists_least hex) := by unfold leastμ; rw [dif_pos hex]
  obtain ⟨⟨y, hy, hμ⟩, _⟩ := Classical.choose_spec (exists_least hex)
  rw [← hm] at hμ
  obtain ⟨hd, hf, hW⟩ := hy
  have := round y w hW a.tmps hf
  rw [← hd] at this
  refine wpIn_mono this ?_
  intro ex a' w' hq
  cases ex <;> try exact hq
  obtain ⟨x', hx', hlt⟩ := hq
  refine ⟨⟨x', hx'⟩, ?_⟩
  have hex' : ∃ m, ∃ x, LoopI X E W x a' w' ∧ μ x = m := ⟨_, x', hx', rfl⟩
  have hm' : leastμ X E W μ a' w' = Classical.choose (exists_least hex') := by unfold leastμ; rw [dif_pos hex']
  obtain ⟨_, hleast⟩ := Classical.choose_spec (exists_least hex')
  rw [← hm'] at hleast
  have := hleast (μ x')
  rw [← hμ]
  refine Nat.lt_of_le_of_lt (Nat.le_of_not_lt fun h => this h ⟨x', hx', rfl⟩) hlt

/-- a round's end -/
theorem G.lp {α : Type} {E : α → Env} {W : α → World → Prop} {μ : α → Nat} {x : α} (x' : α) (hs : Sub (E x') e) (hw : W x' w) (hμ : μ x' < μ x) :
    G X (.lp (fun a' w' => ∃ x', LoopI X E W x' a' w' ∧ μ x' < μ x) :: k) e w :=
  fun _ ht => ⟨x', ⟨rfl, ht.sub hs, hw⟩, hμ⟩
end control
theorem bAnd {a b : Bool} (h : a = true) (k : b = true) : (a && b) = true := by rw [h, k]; rfl
theorem bNot {a : Bool} (h : a = false) : (!a) = true := by rw [h]; rfl
theorem bL {a b : Bool} (h : (a && b) = true) : a = true := by cases a <;> simp_all
theorem bR {a b : Bool} (h : (a && b) = true) : b = true := by cases b <;> simp_all
end Go.Vg
