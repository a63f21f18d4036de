/- A drawn region in one order: reads as soon as they may come up, the others when they alone are ready. -/
import Derived.Test.YtfffblopkaandaaDoorV8
namespace Go.Vg
open Go.RowKit

/-- does an operation leave the world alone, and yield the same whenever it comes up? -/
def readOp : Op → Bool
  | .move _ | .assign _ | .pick .. | .load .. | .nilCheck _ | .binOp .. | .unOp .. | .makeFunc .. | .slice .. | .fieldAddr .. | .field .. | .indexAddr .. | .index .. | .extract .. | .build .. | .makeInterface .. => true
  | .call { callee := .builtin .len, .. } => true
  | _ => false

def stepOrd (ops : Array Oper) (listed : Array Bool) : Option (Nat × Bool) :=
  let rs := Region.ready .any ops listed
  match rs.find? (fun i => ((ops[i]?).map fun o => readOp o.op).getD false && Region.free .any ops listed i) with
  | some i => some (i, true)
  | none => match rs with
    | [i] => some (i, false)
    | _ => none
def ordOf (ops : Array Oper) : Nat → Array Bool → List (Nat × Bool)
  | 0, _ => []
  | n + 1, listed => match stepOrd ops listed with
    | some (i, b) => (i, b) :: ordOf ops n (listed.setIfInBounds i true)
    | none => []

def ordOK (ops : Array Oper) : List (Nat × Bool) → Array Bool → Bool
  | [], listed => (Region.ready .any ops listed).isEmpty
  | (i, true) :: l, listed => (Region.ready .any ops listed).contains i && (Region.free .any ops listed i && ordOK ops l (listed.setIfInBounds i true))
  | (i, false) :: l, listed => (match Region.ready .any ops listed with | [j] => Nat.beq j i | _ => false) && ordOK ops l (listed.setIfInBounds i true)

def ordOps (ops : List Oper) : List (Nat × Bool) → Option (List (Oper × Bool))
  | [] => some []
  | (i, b) :: l => match ops[i]? with
    | some o => match ordOps ops l with
      | some r => some ((o, b) :: r)
      | none => none
    | none => none

def GMN (X : Cx) (ops : Array Oper) (S : World → Prop) (N : Env → World → Prop) : List (Oper × Bool) → Env → World → Prop
  | [], e, w => N e w
  | (o, true) :: l, e, w => ∃ d c v, o.dst = some d ∧ Nat.blt d X.n = true ∧ (∀ w', S w' → Step X ops o e w' (fun e' w'' => e' = (d, c, v) :: e ∧ w'' = w')) ∧ GMN X ops S N l ((d, c, v) :: e) w
  | (o, false) :: l, e, w => Step X ops o e w (fun e' w' => S w' ∧ GMN X ops S N l e' w')
abbrev GM (X : Cx) (ops : Array Oper) (S : World → Prop) (l : List (Oper × Bool)) (k : List Kt) (e : Env) (w : World) : Prop := GMN X ops S (fun e w => G X k e w) l e w

theorem GM.ga {X : Cx} {ops : Array Oper} {S : World → Prop} (hp : plainOps ops = true) : ∀ (ord : List (Nat × Bool)) (l : List (Oper × Bool)) (listed : Array Bool) (fuel : Nat) (k : List Kt) (e : Env) (w : World),
    ordOps ops.toList ord = some l → ordOK ops ord listed = true → ord.length ≤ fuel → GM X ops S l k e w → GA X ops S fuel listed k e w
  | [], l, listed, fuel, k, e, w, ho, hk, _, h => by
    cases ho
    exact GA.done (by simpa [ordOK] using hk) h
  | (i, b) :: ord, l, listed, fuel, k, e, w, ho, hk, hf, h => by
    simp only [ordOps] at ho
    split at ho
    · rename_i o hoi
      have hoi' : ops[i]? = some o := by simpa using hoi
      split at ho
      · rename_i r hr
        cases ho
        cases fuel with
        | zero => simp at hf
        | succ fuel =>
          cases b with
          | true =>
            simp only [ordOK, Bool.and_eq_true] at hk
            obtain ⟨d, c, v, hd, hn, hst, hnext⟩ := h
            exact GA.take i hoi' hp hk.2.1 hk.1 hd hn hst (GM.ga hp ord r _ fuel k _ w hr hk.2.2 (by simpa using hf) hnext)
          | false =>
            simp only [ordOK, Bool.and_eq_true] at hk
            obtain ⟨h1, h2⟩ := hk
            have hrd : Region.ready .any ops listed = [i] := by
              split at h1
              · rename_i j hj; rw [hj, Nat.eq_of_beq_eq_true h1]
              · cases h1
            refine GA.one hrd hoi' ?_
            intro t K Q hft hK
            exact h t K Q hft fun e' w' t' hN hf' => hK e' w' t' ⟨hN.1, GM.ga hp ord r _ fuel k e' w' hr h2 (by simpa using hf) hN.2⟩ hf'
      · cases ho
    · cases ho

section
variable {X : Cx} {k : List Kt} {e : Env} {w : World} {ops : Array Oper} {S : World → Prop}
theorem G.regionM (ord : List (Nat × Bool)) (S : World → Prop) {id : Nat} {l : List Oper} {r : List (Oper × Bool)} (hp : plainOps l.toArray = true) (hk : ordOK l.toArray ord (Array.replicate l.length false) = true) (hlen : Nat.ble ord.length l.length = true)
    (hm : X.P.follows .mixedOrders = true) (hS : S w.drew) (hr : ordOps l ord = some r) (h : GM X l.toArray S r k e w.drew) : G X (.code (.region id l.toArray true) :: k) e w :=
  G.regionD S hm hS (GM.ga hp ord r _ _ k e _ (by simpa using hr) hk (by simpa using hlen) h)
variable {N : Env → World → Prop}
theorem GM.nil (h : N e w) : GMN X ops S N [] e w := h
theorem GM.read {o : Oper} {l : List (Oper × Bool)} {d : Nat} {c : Option Bool} {v : Value} (h : ∀ w', S w' → Step X ops o e w' (fun e' w'' => e' = (d, c, v) :: e ∧ w'' = w'))
    (hd : o.dst = some d) (hn : Nat.blt d X.n = true) (next : GMN X ops S N l ((d, c, v) :: e) w) : GMN X ops S N ((o, true) :: l) e w := ⟨d, c, v, hd, hn, h, next⟩
theorem GM.eff {o : Oper} {l : List (Oper × Bool)} (h : Step X ops o e w (fun e' w' => S w' ∧ GMN X ops S N l e' w')) : GMN X ops S N ((o, false) :: l) e w := h

/-- which are listed -/
def mark (n : Nat) : List Nat → Array Bool
  | [] => Array.replicate n false
  | i :: l => (mark n l).setIfInBounds i true
/-- a drawn region, so many of its operations behind it -/
def GD (X : Cx) (ops : Array Oper) (S : World → Prop) (done : List Nat) (k : List Kt) (e : Env) (w : World) : Prop :=
  ∀ fuel, ops.size ≤ fuel + done.length → GA X ops S fuel (mark ops.size done) k e w
def pushAll : List (Nat × Bool) → List Nat → List Nat
  | [], d => d
  | (i, _) :: l, d => pushAll l (i :: d)
def ordPart (ops : Array Oper) : List (Nat × Bool) → List Nat → Bool
  | [], _ => true
  | (i, true) :: l, d => Nat.blt d.length ops.size && ((Region.ready .any ops (mark ops.size d)).contains i && (Region.free .any ops (mark ops.size d) i && ordPart ops l (i :: d)))
  | (i, false) :: l, d => Nat.blt d.length ops.size && ((match Region.ready .any ops (mark ops.size d) with | [j] => Nat.beq j i | _ => false) && ordPart ops l (i :: d))

theorem GD.stepsL (hp : plainOps ops = true) : ∀ (ord : List (Nat × Bool)) (l : List (Oper × Bool)) (d : List Nat) (e : Env) (w : World), ordOps ops.toList ord = some l → ordPart ops ord d = true →
    GMN X ops S (fun e w => GD X ops S (pushAll ord d) k e w) l e w → GD X ops S d k e w
  | [], l, d, e, w, ho, _, h => by
    cases ho
    exact h
  | (i, b) :: ord, l, d, e, w, ho, hk, h => by
    intro fuel hf
    simp only [ordOps] at ho
    split at ho
    · rename_i o hoi
      have hoi' : ops[i]? = some o := by simpa using hoi
      split at ho
      · rename_i r hr
        cases ho
        have hlt : d.length < ops.size := by
          cases b <;> simp only [ordPart, Bool.and_eq_true, Nat.blt_eq] at hk <;> exact hk.1
        cases fuel with
        | zero => omega
        | succ fuel =>
          cases b with
          | true =>
            simp only [ordPart, Bool.and_eq_true] at hk
            obtain ⟨dd, c, v, hd, hn, hst, hnext⟩ := h
            exact GA.take i hoi' hp hk.2.2.1 hk.2.1 hd hn hst (GD.stepsL hp ord r (i :: d) _ w hr hk.2.2.2 hnext fuel (by simp only [List.length_cons]; omega))
          | false =>
            simp only [ordPart, Bool.and_eq_true] at hk
            obtain ⟨_, h1, h2⟩ := hk
            have hrd : Region.ready .any ops (mark ops.size d) = [i] := by
              split at h1
              · rename_i j hj; rw [hj, Nat.eq_of_beq_eq_true h1]
              · cases h1
            refine GA.one hrd hoi' ?_
            intro t K Q hft hK
            exact h t K Q hft fun e' w' t' hN hf' => hK e' w' t' ⟨hN.1, GD.stepsL hp ord r (i :: d) e' w' hr h2 hN.2 fuel (by simp only [List.length_cons]; omega)⟩ hf'
      · cases ho
    · cases ho
theorem GD.steps (ord : List (Nat × Bool)) {l : List Oper} {r : List (Oper × Bool)} {d : List Nat} (hp : plainOps l.toArray = true) (hk : ordPart l.toArray ord d = true) (hr : ordOps l ord = some r)
    (h : GMN X l.toArray S (fun e w => GD X l.toArray S (pushAll ord d) k e w) r e w) : GD X l.toArray S d k e w :=
  GD.stepsL hp ord r d e w (by simpa using hr) hk h
theorem GD.two (i j : Nat) {l : List Oper} {o o' : Oper} {d : List Nat} (hr : (match Region.ready .any l.toArray (mark l.length d) with | [x, y] => Nat.beq x i && Nat.beq y j | _ => false) = true) (hd : Nat.blt d.length l.length = true) (ho : l[i]? = some o) (ho' : l[j]? = some o')
    (h : Step X l.toArray o e w (fun e' w' => S w' ∧ GD X l.toArray S (i :: d) k e' w'))
    (h' : Step X l.toArray o' e w (fun e' w' => S w' ∧ GD X l.toArray S (j :: d) k e' w')) : GD X l.toArray S d k e w := by
  intro fuel hf
  rw [Nat.blt_eq] at hd
  simp only [List.size_toArray] at hf ⊢
  have hrd : Region.ready .any l.toArray (mark l.length d) = [i, j] := by
    split at hr
    · rename_i x y hj
      rw [Bool.and_eq_true] at hr
      rw [hj, Nat.eq_of_beq_eq_true hr.1, Nat.eq_of_beq_eq_true hr.2]
    · cases hr
  cases fuel with
  | zero => omega
  | succ fuel =>
    refine GA.two hrd (by simpa using ho) (by simpa using ho') ?_ ?_
    · intro t K Q hft hK
      exact h t K Q hft fun e' w' t' hN hf' => hK e' w' t' ⟨hN.1, by have := hN.2 fuel (by simp only [List.size_toArray, List.length_cons]; omega); simpa only [mark, List.size_toArray] using this⟩ hf'
    · intro t K Q hft hK
      exact h' t K Q hft fun e' w' t' hN hf' => hK e' w' t' ⟨hN.1, by have := hN.2 fuel (by simp only [List.size_toArray, List.length_cons]; omega); simpa only [mark, List.size_toArray] using this⟩ hf'
theorem GD.sub {d d' : List Nat} {e' : Env} (hm : mark ops.size d = mark ops.size d') (hl : d.length = d'.length) (hs : Sub e' e) (h : GD X ops S d' k e' w) : GD X ops S d k e w := by
  intro fuel hf t hft hS
  rw [hm]
  exact h fuel (by omega) t (hft.sub hs) hS
/-- ways through a drawn region that meet -/
theorem GD.join {d : List Nat} {α : Type} (d' : List Nat) (E : α → Env) (W : α → World → Prop) (tail : ∀ x w', W x w' → GD X ops S d' k (E x) w')
    (front : (∀ (x : α) (w' : World) (e' : Env) (d2 : List Nat), mark ops.size d2 = mark ops.size d' → d2.length = d'.length → Sub (E x) e' → W x w' → GD X ops S d2 k e' w') → GD X ops S d k e w) : GD X ops S d k e w :=
  front fun x w' _ _ h1 h2 hs hw => GD.sub h1 h2 hs (tail x w' hw)
theorem GD.done {d : List Nat} {l : List Oper} (hr : (Region.ready .any l.toArray (mark l.length d)).isEmpty = true) (h : G X k e w) : GD X l.toArray S d k e w := by
  intro fuel _
  refine GA.done ?_ h
  simpa using hr
theorem G.regionG (S : World → Prop) {id : Nat} {l : List Oper} (hm : X.P.follows .mixedOrders = true) (hS : S w.drew) (h : GD X l.toArray S [] k e w.drew) : G X (.code (.region id l.toArray true) :: k) e w :=
  G.regionD S hm hS (by have := h l.length (by simp); simpa only [mark, List.size_toArray] using this)
end
theorem _root_.Go.RowKit.Below.drew' {B : Nat} {a w : World} (h : Below B a w) : Below B a w.drew := h.drew
theorem Ext.drew' {w0 w : World} (h : Ext w0 w) : Ext w0 w.drew := h.trans (Ext.drew w)
theorem Bx.drew {w : World} {b : Nat} {us : List Value} (h : Bx w b us) : Bx w.drew b us := h
end Go.Vg
namespace Go.Vg
/-- the ways through a piece of code meet again behind it: x : α stands for what they leave -/
theorem G.join {X : Cx} {c : Code} {k : List Kt} {e : Env} {w : World} {α : Type} (E : α → Env) (W : α → World → Prop) (tail : ∀ x w', W x w' → G X k (E x) w')
    (head : G X (.code c :: .lp (fun a w' => ∃ x, LoopI X E W x a w') :: k) e w) : G X (.code c :: k) e w := by
  intro t ht
  refine wpIn_mono (head t ht) ?_
  intro ex a w' hq
  cases ex with
  | normal =>
    obtain ⟨x, hd, hf, hW⟩ := hq
    have := tail x w' hW a.tmps hf
    rw [← hd] at this
    exact this
  | _ => exact hq
theorem G.met {X : Cx} {k : List Kt} {e : Env} {w : World} {α : Type} {E : α → Env} {W : α → World → Prop} (x : α) (hs : Sub (E x) e) (hw : W x w) :
    G X (.lp (fun a w' => ∃ x, LoopI X E W x a w') :: k) e w := fun _ ht => ⟨x, rfl, ht.sub hs, hw⟩
theorem Owns.grew {w w' : World} {B B' : Nat} {u v : Value} {et k : Nat} {xs : List (List Value)} (h : Owns w B' u et k xs) (hg : Grew B v w w') (hne : ∀ b, some b = u.ownBlock → some b ≠ v.ownBlock) : Owns w' B' u et k xs := by
  obtain ⟨⟨hl, h⟩, hk⟩ := h
  refine ⟨⟨hl, ?_⟩, hk⟩
  rcases h with h | ⟨g, cap, cur, h1, h2, h3, h4⟩
  · exact .inl h
  · refine .inr ⟨g, cap, cur, h1, h2, ?_, h4⟩
    rw [hg.block g (Array.getElem?_eq_some_iff.1 h3).1 (hne g (by rw [h1]; rfl))]; exact h3
theorem Owns.apart {w1 w2 : World} {B : Nat} {u v : Value} {et k et' k' : Nat} {xs ys : List (List Value)} (h : Owns w1 B v et k xs) (h' : Owns w2 w1.heap.size u et' k' ys) : ∀ b, some b = u.ownBlock → some b ≠ v.ownBlock := by
  intro b hb e
  rcases h.1.2 with ⟨rfl, _⟩ | ⟨g, cap, cur, rfl, _, h3, _⟩
  · simp [Value.ownBlock] at e
  · rcases h'.1.2 with ⟨rfl, _⟩ | ⟨g', cap', cur', rfl, h2, _, _⟩
    · simp [Value.ownBlock] at hb
    · simp only [Value.ownBlock, Option.some.injEq] at e hb
      have := (Array.getElem?_eq_some_iff.1 h3).1
      omega
end Go.Vg
