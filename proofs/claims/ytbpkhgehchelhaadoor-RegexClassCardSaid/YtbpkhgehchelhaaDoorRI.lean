/- regex: trees in memory; classes, walked. -/
import Derived.Test.YtbpkhgehchelhaaDoorRH
import Derived.Test.YtbpkhgehchelhaaDoorGR1
import Derived.Test.YtbpkhgehchelhaaDoorGV3
import Derived.Shelf.Strings.Prefix
open Go Go.Vg Go.RowKit Go.Proofs Go.Proofs.YtbpkhgehchelhaaDoor
namespace Go.Proofs.YtbpkhgehchelhaaDoor
set_option linter.unusedSimpArgs false

/-- a tree's cells -/
def trC (k : Nat) (sp : Value) (neg : Bool) (n : Nat) (mn mx : Int) (few plus : Bool) (ks : Value) : List Value :=
  [.int .i64 k, sp, .bool neg, .int .i64 n, .int .i64 mn, .int .i64 mx, .bool few, .bool plus, ks]
abbrev nilV : Value := .slice none 0 0
def kindT : Rx.T → Nat
  | .emp => 0
  | .set .. => 1
  | .bos => 2
  | .eos => 3
  | .grp .. => 4
  | .seq _ => 5
  | .alt .. => 6
  | .rep .. => 7
def negT : Rx.T → Bool
  | .set _ neg => neg
  | _ => false
def numT : Rx.T → Nat
  | .grp n _ => n
  | _ => 0
def mnT : Rx.T → Int
  | .rep mn _ _ _ _ => mn
  | _ => 0
def mxT : Rx.T → Int
  | .rep _ mx _ _ _ => mx
  | _ => 0
def fewT : Rx.T → Bool
  | .rep _ _ few _ _ => few
  | _ => false
def plusT : Rx.T → Bool
  | .rep _ _ _ plus _ => plus
  | _ => false
def cellsT (sp ks : Value) (t : Rx.T) : List Value := trC (kindT t) sp (negT t) (numT t) (mnT t) (mxT t) (fewT t) (plusT t) ks
def spansT : Rx.T → List (Nat × Nat)
  | .set l _ => l
  | _ => []
def kidsT : Rx.T → List Rx.T
  | .grp _ t => [t]
  | .seq l => l
  | .alt a b => [a, b]
  | .rep _ _ _ _ t => [t]
  | _ => []
/-- bounds of what a tree says -/
def TrB (t : Rx.T) : Prop := Small (spansT t) ∧ numT t ≤ 256 ∧ mnT t ≤ 100 ∧ mxT t ≤ 100
structure RowA (w : World) (A : Nat → Prop) (v : Value) (et k : Nat) (xs : List (List Value)) : Prop where
  own : Owns w 0 v et k xs
  inn : ∀ g, v.ownBlock = some g → A g
/-- a tree in memory, in blocks of A -/
inductive Tr (w : World) (A : Nat → Prop) : Rx.T → Value → Prop where
  | mk {t : Rx.T} (b : Nat) (sp ks : Value) (us : List Value) (hA : A b) (hb : Bx w b (cellsT sp ks t)) (hs : RowA w A sp 140 2 ((spansT t).map spanC)) (hm : TrB t)
      (hk : RowA w A ks 65 1 (us.map fun u => [u])) (hl : us.length = (kidsT t).length) (hkids : ∀ (i : Nat) (t' : Rx.T) (u : Value), (kidsT t)[i]? = some t' → us[i]? = some u → Tr w A t' u) : Tr w A t (ptr b)
theorem RowA.same {w w' : World} {A A' : Nat → Prop} {v : Value} {et k : Nat} {xs : List (List Value)} (h : RowA w A v et k xs) (hs : ∀ b, b < w.heap.size → A b → w'.heap[b]? = w.heap[b]? ∧ A' b) : RowA w' A' v et k xs :=
  ⟨h.own.same fun g hg he => (hs g hg (h.inn g he)).1, fun g he => (hs g (h.own.lt g he).2 (h.inn g he)).2⟩
theorem Tr.same {w w' : World} {A A' : Nat → Prop} {t : Rx.T} {v : Value} (h : Tr w A t v) (hs : ∀ b, b < w.heap.size → A b → w'.heap[b]? = w.heap[b]? ∧ A' b) : Tr w' A' t v := by
  induction h with
  | mk b sp ks us hA hb hsp hm hk hl _ ih => exact .mk b sp ks us (hs b hb.lt hA).2 (hb.same (hs b hb.lt hA).1) (hsp.same hs) hm (hk.same hs) hl ih
theorem RowA.nil (w : World) (A : Nat → Prop) (et k : Nat) : RowA w A nilV et k [] := ⟨Owns.nil _ _ _ _, fun g hg => by simp [Value.ownBlock] at hg⟩

/-- a class under way -/
structure Cl (w W : World) (rb tb : Nat) (s : List UInt8) (a g : Nat) (neg : Bool) (sp : Value) (acc : List (Nat × Nat)) : Prop where
  rd : Rd W rb s a g
  kp : Kp rb w W
  lt : rb < w.heap.size
  tbx : Bx W tb (trC 1 sp neg 0 0 0 false false nilV)
  tge : w.heap.size ≤ tb
  own : Sp W w.heap.size sp acc
  ne : sp.ownBlock ≠ some tb
  sm : Small acc
theorem Cl.to {w W W' : World} {rb tb : Nat} {s : List UInt8} {a a' g : Nat} {neg : Bool} {sp : Value} {acc : List (Nat × Nat)} (h : Cl w W rb tb s a g neg sp acc) (hk : Kp rb W W') (hr : Rd W' rb s a' g) : Cl w W' rb tb s a' g neg sp acc :=
  ⟨hr, h.kp.trans hk, h.lt, h.tbx.kp hk (by have := h.lt; have := h.tge; omega), h.tge, h.own.kp hk h.lt, h.ne, h.sm⟩
theorem Cl.ext {w W W' : World} {rb tb : Nat} {s : List UInt8} {a g : Nat} {neg : Bool} {sp : Value} {acc : List (Nat × Nat)} (h : Cl w W rb tb s a g neg sp acc) (hk : Ext W W') : Cl w W' rb tb s a g neg sp acc := h.to hk.kp (h.rd.to hk)

theorem hp_ok (s : List UInt8) (a : Nat) (w : World) : Ret Tryd.prog 49 ⟨[S (s.drop a), S [45, 93]]⟩ w fun r w' => r = .bool (Rx.isB s a 45 && Rx.isB s (a + 1) 93) ∧ Ext w w' :=
  Calls.mono (Any.strings_HasPrefix Tryd.lays99 ⟨⟨s.drop a⟩⟩ ⟨⟨[45, 93]⟩⟩ w) fun _ _ ⟨he, hw⟩ => ⟨_, he, by
    show Value.bool (Lib.hasPrefix (s.drop a) [45, 93]) = _
    congr 1
    unfold Lib.hasPrefix Rx.isB
    have e0 : s[a]? = (s.drop a)[0]? := by simp
    have e1 : s[a + 1]? = (s.drop a)[1]? := by simp
    have hl : (s.drop a).length = s.length - a := List.length_drop
    rw [List.getD_eq_getElem?_getD, List.getD_eq_getElem?_getD, e0, e1]
    have h0 : a < s.length ↔ 0 < (s.drop a).length := by omega
    have h1 : a + 1 < s.length ↔ 1 < (s.drop a).length := by omega
    simp only [h0, h1]
    generalize s.drop a = l
    rw [Bool.eq_iff_iff]
    rcases l with _ | ⟨x, _ | ⟨y, r⟩⟩ <;> simp
    exact ⟨fun ⟨p, q⟩ => ⟨p.symm, q.symm⟩, fun ⟨p, q⟩ => ⟨p.symm, q.symm⟩⟩, by rw [hw]; exact Ext.refl _⟩

set_option maxHeartbeats 4000000 in
theorem class_ok (w : World) (rb : Nat) (s : List UInt8) (i g : Nat) (h : Rd w rb s i g) :
    RetP Tryd.prog 95 ⟨[ptr rb]⟩ w (fun r w' => ∃ t a, Rx.cls s i = .ok (t, a) ∧ i < a ∧ Tr w' (fun b => w.heap.size ≤ b) t r ∧ Rd w' rb s a g ∧ Kp rb w w') (Bad rb w (Rx.cls s i)) := by
  refine ret_of_GP Tryd.func95 rfl Tryd.ntmps95 rfl ?_
  simp only [argEnv]
  try (first | refine gl tb ?_ | refine gg tb ?_ | refine ll tb ?_ | refine lg tb ?_); repeat ((first | refine G.condT rfl ?_ | refine G.condF rfl ?_ | refine sFa tb ?_ | refine sLd tb ?_ | refine sLa tb ?_ | refine sLen tb ?_ | refine sFd tb ?_ | refine sBd tb ?_ | refine sBa tb ?_); try (first | refine gl tb ?_ | refine gg tb ?_ | refine ll tb ?_ | refine lg tb ?_))
  refine sBox (fun W1 hb1 hs1 hx1 => ?_)
  have hlt := h.bx.lt
  have hr1 := h.to hx1
  try (first | refine gl tb ?_ | refine gg tb ?_ | refine ll tb ?_ | refine lg tb ?_); repeat ((first | refine G.condT rfl ?_ | refine G.condF rfl ?_ | refine sFa tb ?_ | refine sLd tb ?_ | refine sLa tb ?_ | refine sLen tb ?_ | refine sFd tb ?_ | refine sBd tb ?_ | refine sBa tb ?_); try (first | refine gl tb ?_ | refine gg tb ?_ | refine ll tb ?_ | refine lg tb ?_))
  refine sCall c73 (takes_ok 94 W1 rb s i g hr1) ?_
  rintro _ W2 ⟨rfl, hr2, hk2⟩
  have hb2 := hb1.kp hk2 (by omega)
  try (first | refine gl tb ?_ | refine gg tb ?_ | refine ll tb ?_ | refine lg tb ?_); repeat ((first | refine G.condT rfl ?_ | refine G.condF rfl ?_ | refine sFa tb ?_ | refine sLd tb ?_ | refine sLa tb ?_ | refine sLen tb ?_ | refine sFd tb ?_ | refine sBd tb ?_ | refine sBa tb ?_); try (first | refine gl tb ?_ | refine gg tb ?_ | refine ll tb ?_ | refine lg tb ?_))
  refine sSf tb (fun W3 hb3 hw3 => ?_)
  obtain ⟨neg, hneg⟩ : ∃ neg, Rx.isB s i 94 = neg := ⟨_, rfl⟩
  rw [hneg] at hb3 hr2
  have hB3 : Bx W3 w.heap.size (trC 1 nilV neg 0 0 0 false false nilV) := hb3
  clear hb3 hb2 hb1
  have hk3 : Kp rb w W3 := (hx1.kp.trans hk2).new hw3.kp (Nat.le_refl _)
  have hr3 : Rd W3 rb s (if neg then i + 1 else i) g := hr2.kp hw3.kp hlt
  have hij : i ≤ (if neg then i + 1 else i) := by split <;> omega
  have hCe : ∀ e, Rx.classL s (s.length - (if neg then i + 1 else i) + 1) true (if neg then i + 1 else i) [] = .error e → Rx.cls s i = .error e := fun e he => by
    unfold Rx.cls; rw [hneg]; simp only [he]
  have hCo : ∀ l a, Rx.classL s (s.length - (if neg then i + 1 else i) + 1) true (if neg then i + 1 else i) [] = .ok (l, a) → Rx.cls s i = .ok (.set l neg, a) := fun l a he => by
    unfold Rx.cls; rw [hneg]; simp only [he]
  generalize (if neg then i + 1 else i) = j at hr3 hij hCe hCo
  have hc3 : Cl w W3 rb w.heap.size s j g neg nilV [] := ⟨hr3, hk3, hlt, hB3, Nat.le_refl _, Owns.nil _ _ _ _, by simp [Value.ownBlock], by simp [Small]⟩
  clear hB3 hk3 hr3 hw3 hr2 hk2
  try (first | refine gl tb ?_ | refine gg tb ?_ | refine ll tb ?_ | refine lg tb ?_); repeat ((first | refine G.condT rfl ?_ | refine G.condF rfl ?_ | refine sFa tb ?_ | refine sLd tb ?_ | refine sLa tb ?_ | refine sLen tb ?_ | refine sFd tb ?_ | refine sBd tb ?_ | refine sBa tb ?_); try (first | refine gl tb ?_ | refine gg tb ?_ | refine ll tb ?_ | refine lg tb ?_))
  refine (G.loop (fun p : Bool × Nat × Value × List (Nat × Nat) => [(0, none, ptr rb), (3, none, ptr w.heap.size), (4, none, .bool p.1)])
    (fun p W => Cl w W rb w.heap.size s p.2.1 g neg p.2.2.1 p.2.2.2 ∧ j ≤ p.2.1 ∧ p.2.2.2.length ≤ 20 * p.2.1 ∧ Rx.classL s (s.length - p.2.1 + 1) p.1 p.2.1 p.2.2.2 = Rx.classL s (s.length - j + 1) true j []) (fun p => s.length - p.2.1)
    (true, j, nilV, []) (by repeat (first | exact Sub.nil _ | refine Sub.cons rfl ?_)) ⟨hc3, Nat.le_refl _, by simp, rfl⟩ ?_)
  clear hc3
  rintro ⟨f, a, sp, acc⟩ W ⟨hc, hja, hal, hL⟩
  simp only at hc hja hal hL ⊢
  have hbx := hc.rd.bx
  have hai := hc.rd.hi
  have hsz := hc.rd.hs
  unfold rdC at hbx
  rw [Rx.classL] at hL
  refine G.seq ?_
  refine G.join (fun _ : Unit => [(0, none, ptr rb), (3, none, ptr w.heap.size), (4, none, .bool f)]) (fun _ W' => (f || !Rx.isB s a 93) = true ∧ Cl w W' rb w.heap.size s a g neg sp acc) ?_ ?_
  rotate_left
  · cases f
    · try (first | refine gl tb ?_ | refine gg tb ?_ | refine ll tb ?_ | refine lg tb ?_); repeat ((first | refine G.condT rfl ?_ | refine G.condF rfl ?_ | refine sFa tb ?_ | refine sLd tb ?_ | refine sLa tb ?_ | refine sLen tb ?_ | refine sFd tb ?_ | refine sBd tb ?_ | refine sBa tb ?_); try (first | refine gl tb ?_ | refine gg tb ?_ | refine ll tb ?_ | refine lg tb ?_))
      refine GL.cons (Step.on rfl (by rfl) (Step.callO rfl rfl (by repeat (first | exact OpL.nil | refine OpL.cons (Op1.of rfl (by first | exact fun _ => rfl | exact fun _ => by simp [cv])) ?_)) c73 rfl (takes_ok 93 W rb s a g hc.rd) ?_))
      rintro _ W4 ⟨rfl, hr4, hk4⟩
      try (first | refine gl tb ?_ | refine gg tb ?_ | refine ll tb ?_ | refine lg tb ?_); repeat ((first | refine G.condT rfl ?_ | refine G.condF rfl ?_ | refine sFa tb ?_ | refine sLd tb ?_ | refine sLa tb ?_ | refine sLen tb ?_ | refine sFd tb ?_ | refine sBd tb ?_ | refine sBa tb ?_); try (first | refine gl tb ?_ | refine gg tb ?_ | refine ll tb ?_ | refine lg tb ?_))
      first | refine G.condD rfl (fun hc => ?_) (fun hc => ?_) | refine G.condN rfl (fun hc => ?_) (fun hc => ?_) | refine G.cond rfl (fun hc => ?_) (fun hc => ?_)
      · have hx : Rx.isB s a 93 = false := by simpa using hc
        rw [hx] at hr4
        try (first | refine gl tb ?_ | refine gg tb ?_ | refine ll tb ?_ | refine lg tb ?_); repeat ((first | refine G.condT rfl ?_ | refine G.condF rfl ?_ | refine sFa tb ?_ | refine sLd tb ?_ | refine sLa tb ?_ | refine sLen tb ?_ | refine sFd tb ?_ | refine sBd tb ?_ | refine sBa tb ?_); try (first | refine gl tb ?_ | refine gg tb ?_ | refine ll tb ?_ | refine lg tb ?_))
        exact G.met () (by repeat (first | exact Sub.nil _ | refine Sub.cons rfl ?_)) ⟨by rw [hx]; rfl, Cl.to (by assumption) hk4 hr4⟩
      · have hx : Rx.isB s a 93 = true := by simpa using hc
        rename_i hcl
        have hcl : Cl w W rb w.heap.size s a g neg sp acc := by assumption
        rw [hx] at hr4 hL
        simp only [Bool.not_false, Bool.and_true, if_true] at hr4 hL
        have hcl := hcl.to hk4 hr4
        try (first | refine gl tb ?_ | refine gg tb ?_ | refine ll tb ?_ | refine lg tb ?_); repeat ((first | refine G.condT rfl ?_ | refine G.condF rfl ?_ | refine sFa tb ?_ | refine sLd tb ?_ | refine sLa tb ?_ | refine sLen tb ?_ | refine sFd tb ?_ | refine sBd tb ?_ | refine sBa tb ?_); try (first | refine gl tb ?_ | refine gg tb ?_ | refine ll tb ?_ | refine lg tb ?_))
        refine G.retP1 rfl rfl rfl rfl ?_
        refine ⟨.set acc neg, a + 1, hCo _ _ hL.symm, by omega, ?_, hcl.rd, hcl.kp⟩
        exact .mk w.heap.size sp nilV [] (Nat.le_refl _) hcl.tbx ⟨hcl.own.mono (Nat.zero_le _), fun g hg => (hcl.own.lt g hg).1⟩ ⟨hcl.sm, by simp [numT, mnT, mxT]⟩ (RowA.nil _ _ _ _) rfl (fun i t' u h1 => by simp [kidsT] at h1)
    · try (first | refine gl tb ?_ | refine gg tb ?_ | refine ll tb ?_ | refine lg tb ?_); repeat ((first | refine G.condT rfl ?_ | refine G.condF rfl ?_ | refine sFa tb ?_ | refine sLd tb ?_ | refine sLa tb ?_ | refine sLen tb ?_ | refine sFd tb ?_ | refine sBd tb ?_ | refine sBa tb ?_); try (first | refine gl tb ?_ | refine gg tb ?_ | refine ll tb ?_ | refine lg tb ?_))
      refine GL.cons (Step.off (v := .bool false) rfl (of_decide_eq_true rfl) rfl ?_)
      try (first | refine gl tb ?_ | refine gg tb ?_ | refine ll tb ?_ | refine lg tb ?_); repeat ((first | refine G.condT rfl ?_ | refine G.condF rfl ?_ | refine sFa tb ?_ | refine sLd tb ?_ | refine sLa tb ?_ | refine sLen tb ?_ | refine sFd tb ?_ | refine sBd tb ?_ | refine sBa tb ?_); try (first | refine gl tb ?_ | refine gg tb ?_ | refine ll tb ?_ | refine lg tb ?_))
      exact G.met () (by repeat (first | exact Sub.nil _ | refine Sub.cons rfl ?_)) ⟨rfl, hc⟩
  rintro _ W4 ⟨hb, hc4⟩
  have hLe : (!f && Rx.isB s a 93) = false := by cases f <;> simp_all
  rw [hLe] at hL
  simp only [Bool.false_eq_true, if_false] at hL
  have hbx := hc4.rd.bx
  unfold rdC at hbx
  try (first | refine gl tb ?_ | refine gg tb ?_ | refine ll tb ?_ | refine lg tb ?_); repeat ((first | refine G.condT rfl ?_ | refine G.condF rfl ?_ | refine sFa tb ?_ | refine sLd tb ?_ | refine sLa tb ?_ | refine sLen tb ?_ | refine sFd tb ?_ | refine sBd tb ?_ | refine sBa tb ?_); try (first | refine gl tb ?_ | refine gg tb ?_ | refine ll tb ?_ | refine lg tb ?_))
  refine sCall c83 (is_ok 45 W4 rb s a g hc4.rd) ?_
  rintro _ W5 ⟨rfl, hx5⟩
  have hc5 := hc4.ext hx5
  try (first | refine gl tb ?_ | refine gg tb ?_ | refine ll tb ?_ | refine lg tb ?_); repeat ((first | refine G.condT rfl ?_ | refine G.condF rfl ?_ | refine sFa tb ?_ | refine sLd tb ?_ | refine sLa tb ?_ | refine sLen tb ?_ | refine sFd tb ?_ | refine sBd tb ?_ | refine sBa tb ?_); try (first | refine gl tb ?_ | refine gg tb ?_ | refine ll tb ?_ | refine lg tb ?_))
  refine sCallP c100 (one_ok W5 rb s a g hc5.rd) (fun ch w' hz => px_P rfl rfl ?_) ?_
  · obtain ⟨e, he, hw, hk⟩ := hz
    refine ⟨e, hCe e ?_, hw, hc5.kp.trans hk⟩
    rw [← hL]; unfold Rx.member; rw [he]
  rintro _ W6 ⟨l, sg, b, v, hE, rfl, hab, hv, hl0, hl1, hsm, hr6, hk6⟩
  have hc6 := hc5.to hk6 hr6
  have hbx := hc6.rd.bx
  unfold rdC at hbx
  try (first | refine gl tb ?_ | refine gg tb ?_ | refine ll tb ?_ | refine lg tb ?_); repeat ((first | refine G.condT rfl ?_ | refine G.condF rfl ?_ | refine sFa tb ?_ | refine sLd tb ?_ | refine sLa tb ?_ | refine sLen tb ?_ | refine sFd tb ?_ | refine sBd tb ?_ | refine sBa tb ?_); try (first | refine gl tb ?_ | refine gg tb ?_ | refine ll tb ?_ | refine lg tb ?_))
  refine sCallx c83 (fun hc => is_ok 93 W6 rb s b g hc6.rd) ?_
  intro W7 hx7
  have hc7 := hc6.ext hx7
  try (first | refine gl tb ?_ | refine gg tb ?_ | refine ll tb ?_ | refine lg tb ?_); repeat ((first | refine G.condT rfl ?_ | refine G.condF rfl ?_ | refine sFa tb ?_ | refine sLd tb ?_ | refine sLa tb ?_ | refine sLen tb ?_ | refine sFd tb ?_ | refine sBd tb ?_ | refine sBa tb ?_); try (first | refine gl tb ?_ | refine gg tb ?_ | refine ll tb ?_ | refine lg tb ?_))
  have hM : ∀ e, (Rx.isB s a 45 && !f && !Rx.isB s b 93) = true → e = b → Rx.member s a f = .error e := fun e h1 h2 => by
    unfold Rx.member; rw [hE]; simp only []; rw [if_pos h1, h2]
  have hLE : ∀ e, Rx.member s a f = .error e → Rx.cls s i = .error e := fun e he => by
    refine hCe e ?_
    rw [← hL, he]
  have hLO : ∀ l' b', Rx.member s a f = .ok (l', b') → Rx.classL s (s.length - a) false b' (acc ++ l') = Rx.classL s (s.length - j + 1) true j [] := fun l' b' he => by
    rw [← hL, he]
  have hbx := hc7.rd.bx
  unfold rdC at hbx
  first | refine G.condD rfl (fun hc => ?_) (fun hc => ?_) | refine G.condN rfl (fun hc => ?_) (fun hc => ?_) | refine G.cond rfl (fun hc => ?_) (fun hc => ?_)
  · try (first | refine gl tb ?_ | refine gg tb ?_ | refine ll tb ?_ | refine lg tb ?_); repeat ((first | refine G.condT rfl ?_ | refine G.condF rfl ?_ | refine sFa tb ?_ | refine sLd tb ?_ | refine sLa tb ?_ | refine sLen tb ?_ | refine sFd tb ?_ | refine sBd tb ?_ | refine sBa tb ?_); try (first | refine gl tb ?_ | refine gg tb ?_ | refine ll tb ?_ | refine lg tb ?_))
    refine sCallP c56 (fail_ok rb b W7) (fun ch w' hz => px_P rfl rfl ?_) ?_
    · exact Bad.mk (hLE b (hM b (by assumption) rfl)) hz hc7.kp
    · rintro _ _ ⟨⟩
  have hn1 : (Rx.isB s a 45 && !f && !Rx.isB s b 93) = false := by assumption
  have hbs := hc7.rd.hi
  try (first | refine gl tb ?_ | refine gg tb ?_ | refine ll tb ?_ | refine lg tb ?_); repeat ((first | refine G.condT rfl ?_ | refine G.condF rfl ?_ | refine sFa tb ?_ | refine sLd tb ?_ | refine sLa tb ?_ | refine sLen tb ?_ | refine sFd tb ?_ | refine sBd tb ?_ | refine sBa tb ?_); try (first | refine gl tb ?_ | refine gg tb ?_ | refine ll tb ?_ | refine lg tb ?_))
  refine G.regionM [(0, true), (1, true), (2, true), (3, true), (4, true), (5, true), (6, true), (7, false), (8, true), (9, true), (10, true), (11, true), (12, true), (13, true), (14, true), (15, true), (16, true), (17, true), (18, true), (19, false), (20, true), (21, true)] (Ext W7) (by kernel_rfl) (by kernel_rfl) rfl mixed (Ext.drew W7) rfl ?_
  try (refine mm tb ?_); repeat ((first | refine dFa tb ?_ | refine dLd tb ?_ | refine dLa tb ?_ | refine dLen tb ?_ | refine dFd tb ?_); try (refine mm tb ?_))
  refine GM.eff (Step.callX rfl rfl (by repeat (first | exact OpL.nil | refine OpL.cons (Op1.of rfl (by first | exact fun _ => rfl | exact fun h => h | exact fun h => bL h | exact fun h => bL (bL h) | exact fun h => bL (bL (bL h)))) ?_)) c83 rfl (fun hc => is_ok 45 W7.drew rb s b g (hc7.rd.to (Ext.drew W7))) ?_)
  intro W8 hx8
  have hx8 := (Ext.drew W7).trans hx8
  refine ⟨hx8, ?_⟩
  try (refine mm tb ?_); repeat ((first | refine dFa tb ?_ | refine dLd tb ?_ | refine dLa tb ?_ | refine dLen tb ?_ | refine dFd tb ?_); try (refine mm tb ?_))
  refine GM.read (fun w' hS => Step.sliceSl tb b rfl (Op1.of rfl (by first | exact fun _ => rfl | exact fun h => h | exact fun h => bL h | exact fun h => bL (bL h) | exact fun h => bL (bL (bL h)))) (Op1.of rfl (by first | exact fun _ => rfl | exact fun h => h | exact fun h => bL h | exact fun h => bL (bL h) | exact fun h => bL (bL (bL h)))) rfl (fun _ => ⟨rfl, by omega⟩) rfl ⟨rfl, rfl⟩) rfl rfl ?_
  try (refine mm tb ?_); repeat ((first | refine dFa tb ?_ | refine dLd tb ?_ | refine dLa tb ?_ | refine dLen tb ?_ | refine dFd tb ?_); try (refine mm tb ?_))
  refine GM.eff (Step.callX rfl rfl (by repeat (first | exact OpL.nil | refine OpL.cons (Op1.of rfl (by first | exact fun _ => rfl | exact fun h => h | exact fun h => bL h | exact fun h => bL (bL h) | exact fun h => bL (bL (bL h)))) ?_)) c49 rfl (fun hc => hp_ok s b W8) ?_)
  intro W9 hx9
  have hx9 := hx8.trans hx9
  refine ⟨hx9, ?_⟩
  try (refine mm tb ?_); repeat ((first | refine dFa tb ?_ | refine dLd tb ?_ | refine dLa tb ?_ | refine dLen tb ?_ | refine dFd tb ?_); try (refine mm tb ?_))
  refine GM.nil ?_
  have hc9 := hc7.ext hx9
  have hgt : w.heap.size < W5.heap.size := hc5.tbx.lt
  have hvV : Sp W9 W5.heap.size v l := (hv.to hx7).to hx9
  clear hx9 hx8 hc7 hc6 hc5 hc4
  have hbx := hc9.rd.bx
  unfold rdC at hbx
  obtain ⟨cc, hcc⟩ : ∃ cc, ((!Rx.isB s a 45 || f) && Rx.isB s b 45 && !Rx.isB s (b + 1) 93) = cc := ⟨_, rfl⟩
  have hccE : ((!Rx.isB s a 45 || f) && Rx.isB s b 45 && !(Rx.isB s b 45 && Rx.isB s (b + 1) 93)) = cc := by
    rw [← hcc]; cases (!Rx.isB s a 45 || f) <;> cases Rx.isB s b 45 <;> rfl
  rw [hccE]
  have hlen := hc9.rd.hs
  have hM0 : cc = false → Rx.member s a f = .ok (l, b) := fun h1 => by
    unfold Rx.member; rw [hE]; simp only []; rw [if_neg (by rw [hn1]; simp), hcc, h1]; rfl
  have hM1 : cc = true → sg = false → Rx.member s a f = .error (b + 1) := fun h1 h2 => by
    unfold Rx.member; rw [hE]; simp only []; rw [if_neg (by rw [hn1]; simp), hcc, h1, h2]; rfl
  have hM2 : cc = true → sg = true → ∀ e, Rx.last s (b + 1) (Rx.lo l) = .error e → Rx.member s a f = .error e := fun h1 h2 e he => by
    unfold Rx.member; rw [hE]; simp only []; rw [if_neg (by rw [hn1]; simp), hcc, h1, h2, he]; rfl
  have hM3 : cc = true → sg = true → ∀ x d, Rx.last s (b + 1) (Rx.lo l) = .ok (x, d) → Rx.member s a f = .ok ([(Rx.lo l, x)], d) := fun h1 h2 x d he => by
    unfold Rx.member; rw [hE]; simp only []; rw [if_neg (by rw [hn1]; simp), hcc, h1, h2, he]; rfl
  refine G.join (fun p : Value × List (Nat × Nat) × Nat => [(0, none, ptr rb), (3, none, ptr w.heap.size), (6, none, p.1)])
    (fun p W' => Rx.member s a f = .ok (p.2.1, p.2.2) ∧ a < p.2.2 ∧ Cl w W' rb w.heap.size s p.2.2 g neg sp acc ∧ Sli W' p.1 2 (p.2.1.map spanC) ∧ p.2.1.length ≤ 11 ∧ Small p.2.1) ?_ ?_
  rotate_left
  · first | refine G.condD rfl (fun hc => ?_) (fun hc => ?_) | refine G.condN rfl (fun hc => ?_) (fun hc => ?_) | refine G.cond rfl (fun hc => ?_) (fun hc => ?_)
    · have hbl : b < s.length := by
        have h1 : Rx.isB s b 45 = true := by
          rw [hc] at hcc
          simp only [Bool.and_eq_true] at hcc
          exact hcc.1.2
        unfold Rx.isB at h1
        simp at h1
        exact h1.1
      try (first | refine gl tb ?_ | refine gg tb ?_ | refine ll tb ?_ | refine lg tb ?_); repeat ((first | refine G.condT rfl ?_ | refine G.condF rfl ?_ | refine sFa tb ?_ | refine sLd tb ?_ | refine sLa tb ?_ | refine sLen tb ?_ | refine sFd tb ?_ | refine sBd tb ?_ | refine sBa tb ?_); try (first | refine gl tb ?_ | refine gg tb ?_ | refine ll tb ?_ | refine lg tb ?_))
      refine sAd tb (r := ((b + 1 : Nat) : Int)) ?_
      try (first | refine gl tb ?_ | refine gg tb ?_ | refine ll tb ?_ | refine lg tb ?_); repeat ((first | refine G.condT rfl ?_ | refine G.condF rfl ?_ | refine sFa tb ?_ | refine sLd tb ?_ | refine sLa tb ?_ | refine sLen tb ?_ | refine sFd tb ?_ | refine sBd tb ?_ | refine sBa tb ?_); try (first | refine gl tb ?_ | refine gg tb ?_ | refine ll tb ?_ | refine lg tb ?_))
      refine sSf tb (fun WA hbA hwA => ?_)
      have hrA : Rd WA rb s (b + 1) g := ⟨by simpa [rdC] using hbA, hc9.rd.tabs.kp hwA.kp hc9.rd.hb, hc9.rd.hb, hbl, hlen, by have := hc9.rd.hg; omega⟩
      have hcA := hc9.to hwA.kp hrA
      clear hbA
      have hbx := hrA.bx
      unfold rdC at hbx
      try (first | refine gl tb ?_ | refine gg tb ?_ | refine ll tb ?_ | refine lg tb ?_); repeat ((first | refine G.condT rfl ?_ | refine G.condF rfl ?_ | refine sFa tb ?_ | refine sLd tb ?_ | refine sLa tb ?_ | refine sLen tb ?_ | refine sFd tb ?_ | refine sBd tb ?_ | refine sBa tb ?_); try (first | refine gl tb ?_ | refine gg tb ?_ | refine ll tb ?_ | refine lg tb ?_))
      first | refine G.condD rfl (fun hc => ?_) (fun hc => ?_) | refine G.condN rfl (fun hc => ?_) (fun hc => ?_) | refine G.cond rfl (fun hc => ?_) (fun hc => ?_)
      · have hsg : sg = false := by simpa using hc
        try (first | refine gl tb ?_ | refine gg tb ?_ | refine ll tb ?_ | refine lg tb ?_); repeat ((first | refine G.condT rfl ?_ | refine G.condF rfl ?_ | refine sFa tb ?_ | refine sLd tb ?_ | refine sLa tb ?_ | refine sLen tb ?_ | refine sFd tb ?_ | refine sBd tb ?_ | refine sBa tb ?_); try (first | refine gl tb ?_ | refine gg tb ?_ | refine ll tb ?_ | refine lg tb ?_))
        refine sCallP c56 (fail_ok rb (b + 1) WA) (fun ch w' hz => px_P rfl rfl ?_) ?_
        · exact Bad.mk (hLE _ (hM1 (by assumption) hsg)) hz hcA.kp
        · rintro _ _ ⟨⟩
      · have hsg : sg = true := by simpa using hc
        have hvA : Sp WA W5.heap.size v l := hvV.kp hwA.kp (by omega)
        have hvs := hvA.sli
        obtain ⟨x, r, rfl⟩ : ∃ x r, l = x :: r := by cases l with
          | nil => simp at hl0
          | cons x r => exact ⟨x, r, rfl⟩
        have hlo : Rx.lo (x :: r) = x.1 := rfl
        rw [hlo] at hM2 hM3
        have hget : ((x :: r).map spanC)[0]? = some (spanC x) := rfl
        try (first | refine gl tb ?_ | refine gg tb ?_ | refine ll tb ?_ | refine lg tb ?_); repeat ((first | refine G.condT rfl ?_ | refine G.condF rfl ?_ | refine sFa tb ?_ | refine sLd tb ?_ | refine sLa tb ?_ | refine sLen tb ?_ | refine sFd tb ?_ | refine sBd tb ?_ | refine sBa tb ?_); try (first | refine gl tb ?_ | refine gg tb ?_ | refine ll tb ?_ | refine lg tb ?_))
        refine G.regionM [(0, true), (1, true), (2, true), (3, true), (4, true), (5, true), (6, true), (7, true), (8, true), (9, false), (10, true), (11, false), (12, true)] (Kp rb WA) (by kernel_rfl) (by kernel_rfl) rfl mixed ((Ext.drew WA).kp) rfl ?_
        try (refine mm tb ?_); repeat ((first | refine dFa tb ?_ | refine dLd tb ?_ | refine dLa tb ?_ | refine dLen tb ?_ | refine dFd tb ?_ | refine dIa tb 0 ?_); try (refine mm tb ?_))
        refine dLd tb (u := .int .i32 x.1) ?_ (hc := by intro w' hS _; first | exact (Sli.elem (hvA.kp hS (by omega)).sli hget).c0 (by exact rfl) | exact (Sli.elem (hvA.kp hS (by omega)).sli hget).cell (by exact rfl))
        try (refine mm tb ?_); repeat ((first | refine dFa tb ?_ | refine dLd tb ?_ | refine dLa tb ?_ | refine dLen tb ?_ | refine dFd tb ?_ | refine dIa tb 0 ?_); try (refine mm tb ?_))
        refine dLd tb (u := .int .i32 x.1) ?_ (hc := by intro w' hS _; first | exact (Sli.elem (hvA.kp hS (by omega)).sli hget).c0 (by exact rfl) | exact (Sli.elem (hvA.kp hS (by omega)).sli hget).cell (by exact rfl))
        try (refine mm tb ?_); repeat ((first | refine dFa tb ?_ | refine dLd tb ?_ | refine dLa tb ?_ | refine dLen tb ?_ | refine dFd tb ?_ | refine dIa tb 0 ?_); try (refine mm tb ?_))
        refine dCallP c101 (last_ok WA.drew rb s (b + 1) g x.1 (hrA.to (Ext.drew WA))) (fun ch w' hz => px_P rfl rfl ?_) ?_
        · obtain ⟨e, he, hw, hk⟩ := hz
          exact ⟨e, hLE _ (hM2 (by assumption) hsg e he), hw, (hcA.kp.trans (Ext.drew WA).kp).trans hk⟩
        rintro _ WC ⟨y, d, hEy, rfl, hbd, hy1, hrC, hkC⟩
        have hkC := (Ext.drew WA).kp.trans hkC
        refine ⟨hkC, ?_⟩
        have hcC := hcA.to hkC hrC
        try (refine mm tb ?_); repeat ((first | refine dFa tb ?_ | refine dLd tb ?_ | refine dLa tb ?_ | refine dLen tb ?_ | refine dFd tb ?_ | refine dIa tb 0 ?_); try (refine mm tb ?_))
        refine GM.read (fun w' hS => Step.build tb rfl rfl rfl rfl rfl rfl rfl rfl rfl ⟨rfl, rfl⟩) rfl rfl ?_
        refine GM.eff (Step.buildSlice tb ([spanC (x.1, y)]) rfl rfl rfl rfl rfl rfl (by rfl) rfl (by rfl) (by rfl) (by rfl) (by simp [spanC]) rfl ?_)
        intro v5 W5' ho5 hs5 hx5'
        refine ⟨hkC.trans hx5'.kp, ?_⟩
        try (refine mm tb ?_); repeat ((first | refine dFa tb ?_ | refine dLd tb ?_ | refine dLa tb ?_ | refine dLen tb ?_ | refine dFd tb ?_); try (refine mm tb ?_))
        refine GM.nil ?_
        try (first | refine gl tb ?_ | refine gg tb ?_ | refine ll tb ?_ | refine lg tb ?_); repeat ((first | refine G.condT rfl ?_ | refine G.condF rfl ?_ | refine sFa tb ?_ | refine sLd tb ?_ | refine sLa tb ?_ | refine sLen tb ?_ | refine sFd tb ?_ | refine sBd tb ?_ | refine sBa tb ?_); try (first | refine gl tb ?_ | refine gg tb ?_ | refine ll tb ?_ | refine lg tb ?_))
        have hsx := (hsm x (by simp)).1
        exact G.met (v5, [(x.1, y)], d) (by repeat (first | exact Sub.nil _ | refine Sub.cons rfl ?_)) ⟨hM3 (by assumption) hsg _ _ hEy, by simp only; omega, hcC.ext hx5', ho5.sli, by simp, by simp [Small]; omega⟩
    · try (first | refine gl tb ?_ | refine gg tb ?_ | refine ll tb ?_ | refine lg tb ?_); repeat ((first | refine G.condT rfl ?_ | refine G.condF rfl ?_ | refine sFa tb ?_ | refine sLd tb ?_ | refine sLa tb ?_ | refine sLen tb ?_ | refine sFd tb ?_ | refine sBd tb ?_ | refine sBa tb ?_); try (first | refine gl tb ?_ | refine gg tb ?_ | refine ll tb ?_ | refine lg tb ?_))
      exact G.met (v, l, b) (by repeat (first | exact Sub.nil _ | refine Sub.cons rfl ?_)) ⟨hM0 (by assumption), hab, hc9, hvV.sli, hl1, hsm⟩
  rintro ⟨v', l', b'⟩ WB ⟨hMe, hab', hcB, hv', hl', hs'⟩
  simp only at hMe hab' hcB hv' hl' hs' ⊢
  have hL' := hLO _ _ hMe
  have htb := hcB.tbx
  unfold trC at htb
  have hown := hcB.own
  have hbs' := hcB.rd.hi
  have hsB := hcB.kp.size
  try (first | refine gl tb ?_ | refine gg tb ?_ | refine ll tb ?_ | refine lg tb ?_); repeat ((first | refine G.condT rfl ?_ | refine G.condF rfl ?_ | refine sFa tb ?_ | refine sLd tb ?_ | refine sLa tb ?_ | refine sLen tb ?_ | refine sFd tb ?_ | refine sBd tb ?_ | refine sBa tb ?_); try (first | refine gl tb ?_ | refine gg tb ?_ | refine ll tb ?_ | refine lg tb ?_))
  have hlen2 : (acc.map spanC).length ≤ 20 * s.length := by rw [List.length_map]; omega
  have hlen3 : (l'.map spanC).length ≤ 11 := by rw [List.length_map]; omega
  refine sApp2 tb hown hv' (fun sp' WD hsp' hg' ho' => ?_) (h1 := by
    intro y hy c hc
    simp only [List.mem_map] at hy
    obtain ⟨z, _, rfl⟩ := hy
    simp only [spanC, List.mem_cons, List.not_mem_nil, or_false] at hc
    rcases hc with rfl | rfl <;> rfl) (hb := by omega) (hl := by omega)
  rw [← List.map_append] at hsp'
  have hne : some w.heap.size ≠ sp.ownBlock := fun e => hcB.ne e.symm
  have htb2 := htb.grew hg' hne
  have hcb : rb < sp.ownBlock.getD WB.heap.size := by
    rcases ho : sp.ownBlock with _ | q
    · have := hcB.lt; simp only [Option.getD_none]; omega
    · have := (hown.lt q ho).1; have := hcB.lt; simp only [Option.getD_some]; omega
  have hcb0 : w.heap.size ≤ sp.ownBlock.getD WB.heap.size := by
    rcases ho : sp.ownBlock with _ | q
    · simp only [Option.getD_none]; omega
    · exact (hown.lt q ho).1
  have hrD := hcB.rd.kp hg'.kp hcb
  have hkD : Kp rb w WD := hcB.kp.new hg'.kp hcb0
  have hneD := hown.own2 ho' hcB.tbx.lt hcB.ne
  clear htb hbx
  have htb : Bx WD w.heap.size _ := htb2
  try (first | refine gl tb ?_ | refine gg tb ?_ | refine ll tb ?_ | refine lg tb ?_); repeat ((first | refine G.condT rfl ?_ | refine G.condF rfl ?_ | refine sFa tb ?_ | refine sLd tb ?_ | refine sLa tb ?_ | refine sLen tb ?_ | refine sFd tb ?_ | refine sBd tb ?_ | refine sBa tb ?_); try (first | refine gl tb ?_ | refine gg tb ?_ | refine ll tb ?_ | refine lg tb ?_))
  refine sSf tb (fun WE hbE hwE => ?_)
  try (first | refine gl tb ?_ | refine gg tb ?_ | refine ll tb ?_ | refine lg tb ?_); repeat ((first | refine G.condT rfl ?_ | refine G.condF rfl ?_ | refine sFa tb ?_ | refine sLd tb ?_ | refine sLa tb ?_ | refine sLen tb ?_ | refine sFd tb ?_ | refine sBd tb ?_ | refine sBa tb ?_); try (first | refine gl tb ?_ | refine gg tb ?_ | refine ll tb ?_ | refine lg tb ?_))
  have hcE : Cl w WE rb w.heap.size s b' g neg sp' (acc ++ l') := ⟨hrD.kp hwE.kp hcB.lt, hkD.new hwE.kp (Nat.le_refl _), hcB.lt, hbE, Nat.le_refl _, hsp'.same (fun q hq e => hwE.block q (fun e2 => hneD (by rw [← e2]; exact e))), hneD, fun y hy => by
    rw [List.mem_append] at hy
    exact hy.elim (hcB.sm y) (hs' y)⟩
  refine G.lp (x := (f, a, sp, acc)) (false, b', sp', acc ++ l') (by repeat (first | exact Sub.nil _ | refine Sub.cons rfl ?_)) ⟨hcE, by simp only; omega, by simp only [List.length_append, List.length_map] at *; omega, ?_⟩ (by simp only; omega)
  rw [← hL']
  have h1 := (Rx.member_adv hMe).1
  exact Rx.classL_fuel _ _ _ _ _ hbs' (by simp only; omega) (by simp only; omega)
end Go.Proofs.YtbpkhgehchelhaaDoor
