/- regex: brackets and things, walked, where what stands in a bracket is. -/
import Derived.Test.YtbpkhgehchelhaaDoorRI
open Go Go.Vg Go.RowKit Go.Proofs Go.Proofs.YtbpkhgehchelhaaDoor
namespace Go.Proofs.YtbpkhgehchelhaaDoor
set_option linter.unusedSimpArgs false

/-- what a reading gives: a tree in new blocks, and the place and groups -/
def Got (rb : Nat) (s : List UInt8) (w : World) (i : Nat) (R : Except Nat (Rx.T × Nat × Nat)) (r : Value) (w' : World) : Prop :=
  ∃ t a g', R = .ok (t, a, g') ∧ Tr w' (fun b => w.heap.size ≤ b) t r ∧ Rd w' rb s a g' ∧ Kp rb w w' ∧ i ≤ a
def AltC (n : Nat) : Prop := ∀ (w : World) (rb : Nat) (s : List UInt8) (i g : Nat), Rd w rb s i g → Rx.need .alt (s.length - i) ≤ n →
  RetP Tryd.prog 54 ⟨[ptr rb]⟩ w (Got rb s w i (Rx.parse s n .alt i g)) (Bad rb w (Rx.parse s n .alt i g))
def SeqC (n : Nat) : Prop := ∀ (w : World) (rb : Nat) (s : List UInt8) (i g : Nat), Rd w rb s i g → Rx.need .seq (s.length - i) ≤ n →
  RetP Tryd.prog 72 ⟨[ptr rb]⟩ w (Got rb s w i (Rx.parse s n .seq i g)) (Bad rb w (Rx.parse s n .seq i g))
def RepC (n : Nat) : Prop := ∀ (w : World) (rb : Nat) (s : List UInt8) (i g : Nat), Rd w rb s i g → Rx.need .rep (s.length - i) ≤ n →
  RetP Tryd.prog 84 ⟨[ptr rb]⟩ w (fun r w' => Got rb s w (i + 1) (Rx.parse s n .rep i g) r w') (Bad rb w (Rx.parse s n .rep i g))
def ThingC (n : Nat) : Prop := ∀ (w : World) (rb : Nat) (s : List UInt8) (i g : Nat), Rd w rb s i g → Rx.need .thing (s.length - i) ≤ n →
  RetP Tryd.prog 89 ⟨[ptr rb]⟩ w (fun r w' => Got rb s w (i + 1) (Rx.parse s n .thing i g) r w') (Bad rb w (Rx.parse s n .thing i g))

theorem Tr.ext {w w' : World} {A : Nat → Prop} {t : Rx.T} {v : Value} (h : Tr w A t v) (hx : Ext w w') : Tr w' A t v := h.same fun b hb hA => ⟨hx.block b hb, hA⟩
theorem Tr.kp {w0 w w' : World} {rb : Nat} {t : Rx.T} {v : Value} (h : Tr w (fun b => w0.heap.size ≤ b) t v) (hx : Kp rb w w') (hr : rb < w0.heap.size) : Tr w' (fun b => w0.heap.size ≤ b) t v :=
  h.same fun b hb hA => ⟨hx.block b hb (by have : w0.heap.size ≤ b := hA; omega), hA⟩

theorem Tr.isPtr {w : World} {A : Nat → Prop} {t : Rx.T} {v : Value} (h : Tr w A t v) : ∃ b, v = ptr b := by
  cases h; exact ⟨_, rfl⟩
/-- the kids of a tree that has just one -/
theorem one_kid {w : World} {A : Nat → Prop} {t : Rx.T} {u : Value} (h : Tr w A t u) : ∀ (i : Nat) (t' : Rx.T) (u' : Value), ([t] : List Rx.T)[i]? = some t' → ([u] : List Value)[i]? = some u' → Tr w A t' u' := by
  intro i t' u' h1 h2
  rcases i with _ | i
  · simp only [List.getElem?_cons_zero, Option.some.injEq] at h1 h2
    subst h1 h2
    exact h
  · simp at h1

set_option maxHeartbeats 4000000 in
theorem bracket_ok (n : Nat) (hA : AltC n) (w : World) (rb : Nat) (s : List UInt8) (a g : Nat) (h : Rd w rb s a g) (hga : g < a) (hn : Rx.need .alt (s.length - a) ≤ n) :
    RetP Tryd.prog 96 ⟨[ptr rb]⟩ w (Got rb s w a (Rx.brk s n a g)) (Bad rb w (Rx.brk s n a g)) := by
  refine ret_of_GP Tryd.func96 rfl Tryd.ntmps96 rfl ?_
  simp only [argEnv]
  try (first | refine gl tb ?_ | refine gg tb ?_ | refine ll tb ?_ | refine lg tb ?_); repeat ((first | refine G.condT rfl ?_ | refine G.condF rfl ?_ | refine sFa tb ?_ | refine sLd tb ?_ | refine sLa tb ?_ | refine sLen tb ?_ | refine sFd tb ?_ | refine sBd tb ?_ | refine sBa tb ?_); try (first | refine gl tb ?_ | refine gg tb ?_ | refine ll tb ?_ | refine lg tb ?_))
  refine sBox (fun W1 hb1 hs1 hx1 => ?_)
  have hlt := h.bx.lt
  have hr1 := h.to hx1
  have hb1 : Bx W1 w.heap.size (trC 4 nilV false 0 0 0 false false nilV) := hb1
  try (first | refine gl tb ?_ | refine gg tb ?_ | refine ll tb ?_ | refine lg tb ?_); repeat ((first | refine G.condT rfl ?_ | refine G.condF rfl ?_ | refine sFa tb ?_ | refine sLd tb ?_ | refine sLa tb ?_ | refine sLen tb ?_ | refine sFd tb ?_ | refine sBd tb ?_ | refine sBa tb ?_); try (first | refine gl tb ?_ | refine gg tb ?_ | refine ll tb ?_ | refine lg tb ?_))
  refine sCall c73 (takes_ok 63 W1 rb s a g hr1) ?_
  rintro _ W2 ⟨rfl, hr2, hk2⟩
  have hb2 := hb1.kp hk2 (by omega)
  have hk2 := hx1.kp.trans hk2
  clear hb1
  try (first | refine gl tb ?_ | refine gg tb ?_ | refine ll tb ?_ | refine lg tb ?_); repeat ((first | refine G.condT rfl ?_ | refine G.condF rfl ?_ | refine sFa tb ?_ | refine sLd tb ?_ | refine sLa tb ?_ | refine sLen tb ?_ | refine sFd tb ?_ | refine sBd tb ?_ | refine sBa tb ?_); try (first | refine gl tb ?_ | refine gg tb ?_ | refine ll tb ?_ | refine lg tb ?_))
  refine G.join (fun _ : Nat × Nat × Nat => [(0, none, ptr rb), (3, none, ptr w.heap.size)])
    (fun p W' => Bx W' w.heap.size (trC 4 nilV false p.2.1 0 0 false false nilV) ∧ Rd W' rb s p.1 p.2.2 ∧ Kp rb w W' ∧ a ≤ p.1 ∧ p.2.1 ≤ p.2.2 ∧
      (∀ e, Rx.parse s n .alt p.1 p.2.2 = .error e → Rx.brk s n a g = .error e) ∧ (∀ t b g', Rx.parse s n .alt p.1 p.2.2 = .ok (t, b, g') → Rx.brk s n a g = if Rx.isB s b 41 then .ok (.grp p.2.1 t, b + 1, g') else .error b)) ?_ ?_
  rotate_left
  · first | refine G.condD rfl (fun hc => ?_) (fun hc => ?_) | refine G.condN rfl (fun hc => ?_) (fun hc => ?_) | refine G.cond rfl (fun hc => ?_) (fun hc => ?_)
    · have hc1 : Rx.isB s a 63 = true := hc
      rw [hc1] at hr2
      simp only [if_true] at hr2
      try (first | refine gl tb ?_ | refine gg tb ?_ | refine ll tb ?_ | refine lg tb ?_); repeat ((first | refine G.condT rfl ?_ | refine G.condF rfl ?_ | refine sFa tb ?_ | refine sLd tb ?_ | refine sLa tb ?_ | refine sLen tb ?_ | refine sFd tb ?_ | refine sBd tb ?_ | refine sBa tb ?_); try (first | refine gl tb ?_ | refine gg tb ?_ | refine ll tb ?_ | refine lg tb ?_))
      refine sCall c73 (takes_ok 58 W2 rb s (a + 1) g hr2) ?_
      rintro _ W3 ⟨rfl, hr3, hk3⟩
      have hb3 := hb2.kp hk3 (by omega)
      have hk3 := hk2.trans hk3
      try (first | refine gl tb ?_ | refine gg tb ?_ | refine ll tb ?_ | refine lg tb ?_); repeat ((first | refine G.condT rfl ?_ | refine G.condF rfl ?_ | refine sFa tb ?_ | refine sLd tb ?_ | refine sLa tb ?_ | refine sLen tb ?_ | refine sFd tb ?_ | refine sBd tb ?_ | refine sBa tb ?_); try (first | refine gl tb ?_ | refine gg tb ?_ | refine ll tb ?_ | refine lg tb ?_))
      first | refine G.condD rfl (fun hc => ?_) (fun hc => ?_) | refine G.condN rfl (fun hc => ?_) (fun hc => ?_) | refine G.cond rfl (fun hc => ?_) (fun hc => ?_)
      · have hc2 : Rx.isB s (a + 1) 58 = false := by simpa using hc
        rw [hc2] at hr3
        simp only [Bool.false_eq_true, if_false] at hr3
        have hbx := hr3.bx
        unfold rdC at hbx
        try (first | refine gl tb ?_ | refine gg tb ?_ | refine ll tb ?_ | refine lg tb ?_); repeat ((first | refine G.condT rfl ?_ | refine G.condF rfl ?_ | refine sFa tb ?_ | refine sLd tb ?_ | refine sLa tb ?_ | refine sLen tb ?_ | refine sFd tb ?_ | refine sBd tb ?_ | refine sBa tb ?_); try (first | refine gl tb ?_ | refine gg tb ?_ | refine ll tb ?_ | refine lg tb ?_))
        refine sCallP c56 (fail_ok rb (a + 1) W3) (fun ch w' hz => px_P rfl rfl ?_) ?_
        · exact Bad.mk (by unfold Rx.brk; rw [hc1, hc2]; rfl) hz hk3
        · rintro _ _ ⟨⟩
      · have hc2 : Rx.isB s (a + 1) 58 = true := by simpa using hc
        rw [hc2] at hr3
        simp only [if_true] at hr3
        try (first | refine gl tb ?_ | refine gg tb ?_ | refine ll tb ?_ | refine lg tb ?_); repeat ((first | refine G.condT rfl ?_ | refine G.condF rfl ?_ | refine sFa tb ?_ | refine sLd tb ?_ | refine sLa tb ?_ | refine sLen tb ?_ | refine sFd tb ?_ | refine sBd tb ?_ | refine sBa tb ?_); try (first | refine gl tb ?_ | refine gg tb ?_ | refine ll tb ?_ | refine lg tb ?_))
        exact G.met (a + 1 + 1, 0, g) (by repeat (first | exact Sub.nil _ | refine Sub.cons rfl ?_)) ⟨hb3, hr3, hk3, by simp only; omega, by simp only; omega, fun e he => by unfold Rx.brk; rw [hc1, hc2, he]; rfl, fun t b g' he => by unfold Rx.brk; rw [hc1, hc2, he]; rfl⟩
    · have hc1 : Rx.isB s a 63 = false := hc
      rw [hc1] at hr2
      simp only [Bool.false_eq_true, if_false] at hr2
      have hbx := hr2.bx
      have hai := hr2.hi
      have hsz := hr2.hs
      unfold rdC at hbx
      try (first | refine gl tb ?_ | refine gg tb ?_ | refine ll tb ?_ | refine lg tb ?_); repeat ((first | refine G.condT rfl ?_ | refine G.condF rfl ?_ | refine sFa tb ?_ | refine sLd tb ?_ | refine sLa tb ?_ | refine sLen tb ?_ | refine sFd tb ?_ | refine sBd tb ?_ | refine sBa tb ?_); try (first | refine gl tb ?_ | refine gg tb ?_ | refine ll tb ?_ | refine lg tb ?_))
      refine sAd tb (r := ((g + 1 : Nat) : Int)) ?_
      try (first | refine gl tb ?_ | refine gg tb ?_ | refine ll tb ?_ | refine lg tb ?_); repeat ((first | refine G.condT rfl ?_ | refine G.condF rfl ?_ | refine sFa tb ?_ | refine sLd tb ?_ | refine sLa tb ?_ | refine sLen tb ?_ | refine sFd tb ?_ | refine sBd tb ?_ | refine sBa tb ?_); try (first | refine gl tb ?_ | refine gg tb ?_ | refine ll tb ?_ | refine lg tb ?_))
      refine sSf tb (fun W3 hb3 hw3 => ?_)
      have hr3 : Rd W3 rb s a (g + 1) := ⟨by simpa [rdC] using hb3, hr2.tabs.kp hw3.kp hr2.hb, hr2.hb, hai, hsz, hga⟩
      have hbt := hb2.kp hw3.kp (by omega)
      have hk3 := hk2.trans hw3.kp
      clear hb3 hbx
      have hbx := hr3.bx
      unfold rdC at hbx
      unfold trC at hbt
      try (first | refine gl tb ?_ | refine gg tb ?_ | refine ll tb ?_ | refine lg tb ?_); repeat ((first | refine G.condT rfl ?_ | refine G.condF rfl ?_ | refine sFa tb ?_ | refine sLd tb ?_ | refine sLa tb ?_ | refine sLen tb ?_ | refine sFd tb ?_ | refine sBd tb ?_ | refine sBa tb ?_); try (first | refine gl tb ?_ | refine gg tb ?_ | refine ll tb ?_ | refine lg tb ?_))
      refine sSf tb (fun W4 hb4 hw4 => ?_) (hb := hbt)
      try (first | refine gl tb ?_ | refine gg tb ?_ | refine ll tb ?_ | refine lg tb ?_); repeat ((first | refine G.condT rfl ?_ | refine G.condF rfl ?_ | refine sFa tb ?_ | refine sLd tb ?_ | refine sLa tb ?_ | refine sLen tb ?_ | refine sFd tb ?_ | refine sBd tb ?_ | refine sBa tb ?_); try (first | refine gl tb ?_ | refine gg tb ?_ | refine ll tb ?_ | refine lg tb ?_))
      exact G.met (a, g + 1, g + 1) (by repeat (first | exact Sub.nil _ | refine Sub.cons rfl ?_)) ⟨hb4, hr3.kp hw4.kp hlt, hk3.new hw4.kp (Nat.le_refl _), by simp only; omega, by simp only; omega, fun e he => by unfold Rx.brk; rw [hc1, he]; rfl, fun t b g' he => by unfold Rx.brk; rw [hc1, he]; rfl⟩
  rintro ⟨j, num, g1⟩ W3 ⟨hb3, hr3, hk3, haj, hnum, hE, hO⟩
  simp only at hb3 hr3 haj hnum hE hO ⊢
  clear hr2 hb2 hr1
  try (first | refine gl tb ?_ | refine gg tb ?_ | refine ll tb ?_ | refine lg tb ?_); repeat ((first | refine G.condT rfl ?_ | refine G.condF rfl ?_ | refine sFa tb ?_ | refine sLd tb ?_ | refine sLa tb ?_ | refine sLen tb ?_ | refine sFd tb ?_ | refine sBd tb ?_ | refine sBa tb ?_); try (first | refine gl tb ?_ | refine gg tb ?_ | refine ll tb ?_ | refine lg tb ?_))
  refine sCallP c54 (hA W3 rb s j g1 hr3 (by have := hr3.hi; simp only [Rx.need] at hn ⊢; omega)) (fun ch w' hz => px_P rfl rfl ?_) ?_
  · obtain ⟨e, he, hw, hk⟩ := hz
    exact ⟨e, hE e he, hw, hk3.trans hk⟩
  rintro u W4 ⟨t, b, g', hP, hT, hr4, hk4, hjb⟩
  have hO := hO _ _ _ hP
  obtain ⟨ub, rfl⟩ := hT.isPtr
  have hb4 := hb3.kp hk4 (by omega)
  have hk4' := hk3.trans hk4
  try (first | refine gl tb ?_ | refine gg tb ?_ | refine ll tb ?_ | refine lg tb ?_); repeat ((first | refine G.condT rfl ?_ | refine G.condF rfl ?_ | refine sFa tb ?_ | refine sLd tb ?_ | refine sLa tb ?_ | refine sLen tb ?_ | refine sFd tb ?_ | refine sBd tb ?_ | refine sBa tb ?_); try (first | refine gl tb ?_ | refine gg tb ?_ | refine ll tb ?_ | refine lg tb ?_))
  refine sBs' tb [[ptr ub]] (fun ks W5 ho5 hs5 hx5 => ?_)
  try (first | refine gl tb ?_ | refine gg tb ?_ | refine ll tb ?_ | refine lg tb ?_); repeat ((first | refine G.condT rfl ?_ | refine G.condF rfl ?_ | refine sFa tb ?_ | refine sLd tb ?_ | refine sLa tb ?_ | refine sLen tb ?_ | refine sFd tb ?_ | refine sBd tb ?_ | refine sBa tb ?_); try (first | refine gl tb ?_ | refine gg tb ?_ | refine ll tb ?_ | refine lg tb ?_))
  have hb5 := hb4.to hx5
  unfold trC at hb5
  refine sSf tb (fun W6 hb6 hw6 => ?_) (hb := hb5)
  have htb3 := hb3.lt
  have hT6 : Tr W6 (fun b => w.heap.size ≤ b) t (ptr ub) := (hT.ext hx5).same fun q hq hA => ⟨hw6.block q (by have : W3.heap.size ≤ q := hA; omega), by have : W3.heap.size ≤ q := hA; have := hk3.size; show w.heap.size ≤ q; omega⟩
  have ho6 : Owns W6 W4.heap.size ks _ 1 [[ptr ub]] := ho5.same fun q hq e => hw6.block q (by have := (ho5.lt q e).1; have := hk4.size; omega)
  have hr6 := (hr4.to hx5).kp hw6.kp hlt
  have hk6 := (hk4'.trans hx5.kp).new hw6.kp (Nat.le_refl _)
  have hN : Tr W6 (fun b => w.heap.size ≤ b) (.grp num t) (ptr w.heap.size) := .mk w.heap.size nilV ks [ptr ub] (Nat.le_refl _) hb6 (RowA.nil _ _ _ _) ⟨by simp [spansT, Small], by have := hr3.hg; have := hr3.hi; have := hr3.hs; have := hnum; simp only [numT]; omega, by simp [mnT], by simp [mxT]⟩
    ⟨ho6.mono (Nat.zero_le _), fun q e => by have := (ho6.lt q e).1; have := hk4'.size; show w.heap.size ≤ q; omega⟩ rfl (one_kid hT6)
  clear hb6 hb5 ho5 ho6 hT hT6 hb4 hb3
  try (first | refine gl tb ?_ | refine gg tb ?_ | refine ll tb ?_ | refine lg tb ?_); repeat ((first | refine G.condT rfl ?_ | refine G.condF rfl ?_ | refine sFa tb ?_ | refine sLd tb ?_ | refine sLa tb ?_ | refine sLen tb ?_ | refine sFd tb ?_ | refine sBd tb ?_ | refine sBa tb ?_); try (first | refine gl tb ?_ | refine gg tb ?_ | refine ll tb ?_ | refine lg tb ?_))
  refine sCall c73 (takes_ok 41 W6 rb s b g' hr6) ?_
  rintro _ W7 ⟨rfl, hr7, hk7⟩
  have hk7' := hk6.trans hk7
  try (first | refine gl tb ?_ | refine gg tb ?_ | refine ll tb ?_ | refine lg tb ?_); repeat ((first | refine G.condT rfl ?_ | refine G.condF rfl ?_ | refine sFa tb ?_ | refine sLd tb ?_ | refine sLa tb ?_ | refine sLen tb ?_ | refine sFd tb ?_ | refine sBd tb ?_ | refine sBa tb ?_); try (first | refine gl tb ?_ | refine gg tb ?_ | refine ll tb ?_ | refine lg tb ?_))
  first | refine G.condD rfl (fun hc => ?_) (fun hc => ?_) | refine G.condN rfl (fun hc => ?_) (fun hc => ?_) | refine G.cond rfl (fun hc => ?_) (fun hc => ?_)
  · have hc1 : Rx.isB s b 41 = false := by simpa using hc
    rw [hc1] at hr7 hO
    simp only [Bool.false_eq_true, if_false] at hr7 hO
    have hbx := hr7.bx
    unfold rdC at hbx
    try (first | refine gl tb ?_ | refine gg tb ?_ | refine ll tb ?_ | refine lg tb ?_); repeat ((first | refine G.condT rfl ?_ | refine G.condF rfl ?_ | refine sFa tb ?_ | refine sLd tb ?_ | refine sLa tb ?_ | refine sLen tb ?_ | refine sFd tb ?_ | refine sBd tb ?_ | refine sBa tb ?_); try (first | refine gl tb ?_ | refine gg tb ?_ | refine ll tb ?_ | refine lg tb ?_))
    refine sCallP c56 (fail_ok rb b W7) (fun ch w' hz => px_P rfl rfl ?_) ?_
    · exact Bad.mk hO hz hk7'
    · rintro _ _ ⟨⟩
  · have hc1 : Rx.isB s b 41 = true := by simpa using hc
    rw [hc1] at hr7 hO
    simp only [if_true] at hr7 hO
    try (first | refine gl tb ?_ | refine gg tb ?_ | refine ll tb ?_ | refine lg tb ?_); repeat ((first | refine G.condT rfl ?_ | refine G.condF rfl ?_ | refine sFa tb ?_ | refine sLd tb ?_ | refine sLa tb ?_ | refine sLen tb ?_ | refine sFd tb ?_ | refine sBd tb ?_ | refine sBa tb ?_); try (first | refine gl tb ?_ | refine gg tb ?_ | refine ll tb ?_ | refine lg tb ?_))
    refine G.retP1 rfl rfl rfl rfl ?_
    exact ⟨_, _, _, hO, hN.kp hk7 hlt, hr7, hk7', by omega⟩
end Go.Proofs.YtbpkhgehchelhaaDoor
