/- regex: repeats, walked. -/
import Derived.Test.YtbpkhgehchelhaaDoorRK
open Go Go.Vg Go.RowKit Go.Proofs Go.Proofs.YtbpkhgehchelhaaDoor
namespace Go.Proofs.YtbpkhgehchelhaaDoor
set_option linter.unusedSimpArgs false

/-- a repeat under way -/
structure Rp (w W : World) (rb xb : Nat) (s : List UInt8) (b g : Nat) (t : Rx.T) (ub : Nat) (ks : Value) (mn mx : Int) (few plus : Bool) : Prop where
  rd : Rd W rb s b g
  kp : Kp rb w W
  lt : rb < w.heap.size
  bx : Bx W xb [.int .i64 7, nilV, .bool false, .int .i64 0, .int .i64 mn, .int .i64 mx, .bool few, .bool plus, ks]
  ge : w.heap.size ≤ xb
  tr : Tr W (fun b => w.heap.size ≤ b ∧ b ≠ xb) t (ptr ub)
  ow : Owns W w.heap.size ks 65 1 [[ptr ub]]
  ne : ks.ownBlock ≠ some xb
theorem Rp.to {w W W' : World} {rb xb : Nat} {s : List UInt8} {b b' g : Nat} {t : Rx.T} {ub : Nat} {ks : Value} {mn mx : Int} {few plus : Bool} (h : Rp w W rb xb s b g t ub ks mn mx few plus) (hk : Kp rb W W') (hr : Rd W' rb s b' g) :
    Rp w W' rb xb s b' g t ub ks mn mx few plus :=
  ⟨hr, h.kp.trans hk, h.lt, h.bx.kp hk (by have := h.lt; have := h.ge; omega), h.ge, h.tr.same fun q hq hA => ⟨hk.block q hq (by have := hA.1; have := h.lt; omega), hA⟩, h.ow.kp hk h.lt, h.ne⟩
theorem Rp.st {w W W' : World} {rb xb : Nat} {s : List UInt8} {b g : Nat} {t : Rx.T} {ub : Nat} {ks : Value} {mn mx mn' mx' : Int} {few plus few' plus' : Bool} (h : Rp w W rb xb s b g t ub ks mn mx few plus) (hk : Wr xb W W')
    (hb : Bx W' xb [.int .i64 7, nilV, .bool false, .int .i64 0, .int .i64 mn', .int .i64 mx', .bool few', .bool plus', ks]) : Rp w W' rb xb s b g t ub ks mn' mx' few' plus' :=
  ⟨h.rd.kp hk.kp (by have := h.lt; have := h.ge; omega), h.kp.new hk.kp h.ge, h.lt, hb, h.ge, h.tr.same fun q hq hA => ⟨hk.block q hA.2, hA⟩, h.ow.same (fun q hq e => hk.block q fun e2 => h.ne (by rw [← e2]; exact e)), h.ne⟩

set_option maxHeartbeats 4000000 in
theorem rep_ok (n : Nat) (hA : ThingC n) : RepC (n + 1) := by
  intro w rb s i g h hn
  rw [Rx.parse_rep]
  refine ret_of_GP Tryd.func84 rfl Tryd.ntmps84 rfl ?_
  simp only [argEnv]
  try (first | refine gl tb ?_ | refine gg tb ?_ | refine ll tb ?_ | refine lg tb ?_); repeat ((first | refine G.condT rfl ?_ | refine G.condF rfl ?_ | refine sFa tb ?_ | refine sLd tb ?_ | refine sLa tb ?_ | refine sLen tb ?_ | refine sFd tb ?_ | refine sBd tb ?_ | refine sBa tb ?_); try (first | refine gl tb ?_ | refine gg tb ?_ | refine ll tb ?_ | refine lg tb ?_))
  refine sCallP c89 (hA w rb s i g h (by simp only [Rx.need] at hn ⊢; omega)) (fun ch w' hz => px_P rfl rfl ?_) ?_
  · obtain ⟨e, he, hw, hk2⟩ := hz
    exact ⟨e, by rw [he], hw, hk2⟩
  rintro v W ⟨t, a, g', hE, hT, hr, hk, hia⟩
  rw [hE]
  have hT0 := hT
  obtain ⟨ub, sp, ks0, us, hub, hb0⟩ : ∃ ub sp ks us, v = ptr ub ∧ Bx W ub (cellsT sp ks t) := by
    cases hT with
    | mk b sp ks us hA hb => exact ⟨b, sp, ks, us, rfl, hb⟩
  subst hub
  unfold cellsT trC at hb0
  have hsg : (decide ((kindT t : Int) = 2) || decide ((kindT t : Int) = 3)) = Rx.single t := by cases t <;> rfl
  simp only
  try (first | refine gl tb ?_ | refine gg tb ?_ | refine ll tb ?_ | refine lg tb ?_); repeat ((first | refine G.condT rfl ?_ | refine G.condF rfl ?_ | refine sFa tb ?_ | refine sLd tb ?_ | refine sLa tb ?_ | refine sLen tb ?_ | refine sFd tb ?_ | refine sBd tb ?_ | refine sBa tb ?_); try (first | refine gl tb ?_ | refine gg tb ?_ | refine ll tb ?_ | refine lg tb ?_))
  rw [hsg]
  first | refine G.condD rfl (fun hc => ?_) (fun hc => ?_) | refine G.condN rfl (fun hc => ?_) (fun hc => ?_) | refine G.cond rfl (fun hc => ?_) (fun hc => ?_)
  · have hc1 : Rx.single t = true := hc
    rw [if_pos hc1]
    try (first | refine gl tb ?_ | refine gg tb ?_ | refine ll tb ?_ | refine lg tb ?_); repeat ((first | refine G.condT rfl ?_ | refine G.condF rfl ?_ | refine sFa tb ?_ | refine sLd tb ?_ | refine sLa tb ?_ | refine sLen tb ?_ | refine sFd tb ?_ | refine sBd tb ?_ | refine sBa tb ?_); try (first | refine gl tb ?_ | refine gg tb ?_ | refine ll tb ?_ | refine lg tb ?_))
    refine G.retP1 rfl rfl rfl rfl ?_
    exact ⟨t, a, g', rfl, hT, hr, hk, hia⟩
  have hc1 : ¬ Rx.single t = true := by rw [hc]; simp
  rw [if_neg hc1]
  clear hc hc1 hsg
  try (first | refine gl tb ?_ | refine gg tb ?_ | refine ll tb ?_ | refine lg tb ?_); repeat ((first | refine G.condT rfl ?_ | refine G.condF rfl ?_ | refine sFa tb ?_ | refine sLd tb ?_ | refine sLa tb ?_ | refine sLen tb ?_ | refine sFd tb ?_ | refine sBd tb ?_ | refine sBa tb ?_); try (first | refine gl tb ?_ | refine gg tb ?_ | refine ll tb ?_ | refine lg tb ?_))
  refine sBs' tb [[ptr ub]] (fun ks W1 ho1 hs1 hx1 => ?_)
  obtain ⟨va, vc, hve, _⟩ := ho1.sli.len
  subst hve
  try (first | refine gl tb ?_ | refine gg tb ?_ | refine ll tb ?_ | refine lg tb ?_); repeat ((first | refine G.condT rfl ?_ | refine G.condF rfl ?_ | refine sFa tb ?_ | refine sLd tb ?_ | refine sLa tb ?_ | refine sLen tb ?_ | refine sFd tb ?_ | refine sBd tb ?_ | refine sBa tb ?_); try (first | refine gl tb ?_ | refine gg tb ?_ | refine ll tb ?_ | refine lg tb ?_))
  refine sBox (fun W2 hb2 hs2 hx2 => ?_)
  have hp0 : Rp w W2 rb W1.heap.size s a g' t ub _ 0 0 false false := ⟨(hr.to hx1).to hx2, (hk.trans hx1.kp).trans hx2.kp, h.bx.lt, hb2, by have := hk.size; have := hx1.size; omega,
    (hT.same fun q hq hA => ⟨(hx2.block q (by have := hx1.size; omega)).trans (hx1.block q hq), hA, by have := hx1.size; omega⟩), (ho1.to hx2).mono hk.size, fun e => by have := (ho1.lt _ e).2; omega⟩
  clear hb2 hs2 hs1 hb0
  generalize hxb : W1.heap.size = xb at hp0
  refine GL.cons (Step.assign rfl (Op1.of rfl (by first | exact fun _ => rfl | exact fun h => h | exact fun h => bL h | exact fun h => bL (bL h) | exact fun h => bL (bL (bL h)))) rfl ?_)
  refine GL.nil ?_
  refine G.seq ?_
  refine G.join (fun _ : Nat × Int × Bool × Nat => [(0, none, ptr rb), (4, none, ptr xb)])
    (fun p W' => Rx.rept s a = .ok (some p) ∧ Rp w W' rb xb s p.2.2.2 g' t ub (.slice va [[ptr ub]].length vc) p.1 p.2.1 false p.2.2.1 ∧ i + 1 ≤ p.2.2.2 ∧ (p.1 : Int) ≤ 100 ∧ p.2.1 ≤ 100) ?_ ?_
  rotate_left
  · try (first | refine gl tb ?_ | refine gg tb ?_ | refine ll tb ?_ | refine lg tb ?_); repeat ((first | refine G.condT rfl ?_ | refine G.condF rfl ?_ | refine sFa tb ?_ | refine sLd tb ?_ | refine sLa tb ?_ | refine sLen tb ?_ | refine sFd tb ?_ | refine sBd tb ?_ | refine sBa tb ?_); try (first | refine gl tb ?_ | refine gg tb ?_ | refine ll tb ?_ | refine lg tb ?_))
    refine sCall c73 (takes_ok 42 W2 rb s a g' hp0.rd) ?_
    rintro _ W3 ⟨rfl, hr3, hk3⟩
    have hp3 := hp0.to hk3 hr3
    clear hr3 hk3
    try (first | refine gl tb ?_ | refine gg tb ?_ | refine ll tb ?_ | refine lg tb ?_); repeat ((first | refine G.condT rfl ?_ | refine G.condF rfl ?_ | refine sFa tb ?_ | refine sLd tb ?_ | refine sLa tb ?_ | refine sLen tb ?_ | refine sFd tb ?_ | refine sBd tb ?_ | refine sBa tb ?_); try (first | refine gl tb ?_ | refine gg tb ?_ | refine ll tb ?_ | refine lg tb ?_))
    first | refine G.condD rfl (fun hc => ?_) (fun hc => ?_) | refine G.condN rfl (fun hc => ?_) (fun hc => ?_) | refine G.cond rfl (fun hc => ?_) (fun hc => ?_)
    · have hc1 : Rx.isB s a 42 = true := hc
      rw [hc1] at hp3
      simp only [if_true] at hp3
      have hxx := hp3.bx
      try (first | refine gl tb ?_ | refine gg tb ?_ | refine ll tb ?_ | refine lg tb ?_); repeat ((first | refine G.condT rfl ?_ | refine G.condF rfl ?_ | refine sFa tb ?_ | refine sLd tb ?_ | refine sLa tb ?_ | refine sLen tb ?_ | refine sFd tb ?_ | refine sBd tb ?_ | refine sBa tb ?_); try (first | refine gl tb ?_ | refine gg tb ?_ | refine ll tb ?_ | refine lg tb ?_))
      refine sSf tb (fun W4 hb4 hw4 => ?_)
      have hp4 := hp3.st hw4 hb4
      clear hb4 hxx
      have hxx := hp4.bx
      try (first | refine gl tb ?_ | refine gg tb ?_ | refine ll tb ?_ | refine lg tb ?_); repeat ((first | refine G.condT rfl ?_ | refine G.condF rfl ?_ | refine sFa tb ?_ | refine sLd tb ?_ | refine sLa tb ?_ | refine sLen tb ?_ | refine sFd tb ?_ | refine sBd tb ?_ | refine sBa tb ?_); try (first | refine gl tb ?_ | refine gg tb ?_ | refine ll tb ?_ | refine lg tb ?_))
      refine sSf tb (fun W5 hb5 hw5 => ?_)
      have hp5 := hp4.st hw5 hb5
      try (first | refine gl tb ?_ | refine gg tb ?_ | refine ll tb ?_ | refine lg tb ?_); repeat ((first | refine G.condT rfl ?_ | refine G.condF rfl ?_ | refine sFa tb ?_ | refine sLd tb ?_ | refine sLa tb ?_ | refine sLen tb ?_ | refine sFd tb ?_ | refine sBd tb ?_ | refine sBa tb ?_); try (first | refine gl tb ?_ | refine gg tb ?_ | refine ll tb ?_ | refine lg tb ?_))
      exact G.met (0, -1, false, a + 1) (by repeat (first | exact Sub.nil _ | refine Sub.cons rfl ?_)) ⟨by unfold Rx.rept; rw [if_pos hc1], hp5, by simp only; omega, by simp only; omega, by simp only; omega⟩
    have hn1 : ¬ Rx.isB s a 42 = true := by rw [hc]; simp
    rw [if_neg hn1] at hp3
    try (first | refine gl tb ?_ | refine gg tb ?_ | refine ll tb ?_ | refine lg tb ?_); repeat ((first | refine G.condT rfl ?_ | refine G.condF rfl ?_ | refine sFa tb ?_ | refine sLd tb ?_ | refine sLa tb ?_ | refine sLen tb ?_ | refine sFd tb ?_ | refine sBd tb ?_ | refine sBa tb ?_); try (first | refine gl tb ?_ | refine gg tb ?_ | refine ll tb ?_ | refine lg tb ?_))
    refine sCall c73 (takes_ok 43 W3 rb s a g' hp3.rd) ?_
    rintro _ W4 ⟨rfl, hr4, hk4⟩
    have hp4 := hp3.to hk4 hr4
    clear hr4 hk4 hp3 hc
    try (first | refine gl tb ?_ | refine gg tb ?_ | refine ll tb ?_ | refine lg tb ?_); repeat ((first | refine G.condT rfl ?_ | refine G.condF rfl ?_ | refine sFa tb ?_ | refine sLd tb ?_ | refine sLa tb ?_ | refine sLen tb ?_ | refine sFd tb ?_ | refine sBd tb ?_ | refine sBa tb ?_); try (first | refine gl tb ?_ | refine gg tb ?_ | refine ll tb ?_ | refine lg tb ?_))
    first | refine G.condD rfl (fun hc => ?_) (fun hc => ?_) | refine G.condN rfl (fun hc => ?_) (fun hc => ?_) | refine G.cond rfl (fun hc => ?_) (fun hc => ?_)
    · have hc1 : Rx.isB s a 43 = true := hc
      rw [hc1] at hp4
      simp only [if_true] at hp4
      have hxx := hp4.bx
      try (first | refine gl tb ?_ | refine gg tb ?_ | refine ll tb ?_ | refine lg tb ?_); repeat ((first | refine G.condT rfl ?_ | refine G.condF rfl ?_ | refine sFa tb ?_ | refine sLd tb ?_ | refine sLa tb ?_ | refine sLen tb ?_ | refine sFd tb ?_ | refine sBd tb ?_ | refine sBa tb ?_); try (first | refine gl tb ?_ | refine gg tb ?_ | refine ll tb ?_ | refine lg tb ?_))
      refine sSf tb (fun W5 hb5 hw5 => ?_)
      have hp5 := hp4.st hw5 hb5
      clear hb5 hxx
      have hxx := hp5.bx
      try (first | refine gl tb ?_ | refine gg tb ?_ | refine ll tb ?_ | refine lg tb ?_); repeat ((first | refine G.condT rfl ?_ | refine G.condF rfl ?_ | refine sFa tb ?_ | refine sLd tb ?_ | refine sLa tb ?_ | refine sLen tb ?_ | refine sFd tb ?_ | refine sBd tb ?_ | refine sBa tb ?_); try (first | refine gl tb ?_ | refine gg tb ?_ | refine ll tb ?_ | refine lg tb ?_))
      refine sSf tb (fun W6 hb6 hw6 => ?_)
      have hp6 := hp5.st hw6 hb6
      clear hb6 hxx
      have hxx := hp6.bx
      try (first | refine gl tb ?_ | refine gg tb ?_ | refine ll tb ?_ | refine lg tb ?_); repeat ((first | refine G.condT rfl ?_ | refine G.condF rfl ?_ | refine sFa tb ?_ | refine sLd tb ?_ | refine sLa tb ?_ | refine sLen tb ?_ | refine sFd tb ?_ | refine sBd tb ?_ | refine sBa tb ?_); try (first | refine gl tb ?_ | refine gg tb ?_ | refine ll tb ?_ | refine lg tb ?_))
      refine sSf tb (fun W7 hb7 hw7 => ?_)
      have hp7 := hp6.st hw7 hb7
      try (first | refine gl tb ?_ | refine gg tb ?_ | refine ll tb ?_ | refine lg tb ?_); repeat ((first | refine G.condT rfl ?_ | refine G.condF rfl ?_ | refine sFa tb ?_ | refine sLd tb ?_ | refine sLa tb ?_ | refine sLen tb ?_ | refine sFd tb ?_ | refine sBd tb ?_ | refine sBa tb ?_); try (first | refine gl tb ?_ | refine gg tb ?_ | refine ll tb ?_ | refine lg tb ?_))
      exact G.met (1, -1, true, a + 1) (by repeat (first | exact Sub.nil _ | refine Sub.cons rfl ?_)) ⟨by unfold Rx.rept; rw [if_neg hn1, if_pos hc1], hp7, by simp only; omega, by simp only; omega, by simp only; omega⟩
    have hn2 : ¬ Rx.isB s a 43 = true := by rw [hc]; simp
    rw [if_neg hn2] at hp4
    try (first | refine gl tb ?_ | refine gg tb ?_ | refine ll tb ?_ | refine lg tb ?_); repeat ((first | refine G.condT rfl ?_ | refine G.condF rfl ?_ | refine sFa tb ?_ | refine sLd tb ?_ | refine sLa tb ?_ | refine sLen tb ?_ | refine sFd tb ?_ | refine sBd tb ?_ | refine sBa tb ?_); try (first | refine gl tb ?_ | refine gg tb ?_ | refine ll tb ?_ | refine lg tb ?_))
    refine sCall c73 (takes_ok 63 W4 rb s a g' hp4.rd) ?_
    rintro _ W5 ⟨rfl, hr5, hk5⟩
    have hp5 := hp4.to hk5 hr5
    clear hr5 hk5 hp4 hc
    try (first | refine gl tb ?_ | refine gg tb ?_ | refine ll tb ?_ | refine lg tb ?_); repeat ((first | refine G.condT rfl ?_ | refine G.condF rfl ?_ | refine sFa tb ?_ | refine sLd tb ?_ | refine sLa tb ?_ | refine sLen tb ?_ | refine sFd tb ?_ | refine sBd tb ?_ | refine sBa tb ?_); try (first | refine gl tb ?_ | refine gg tb ?_ | refine ll tb ?_ | refine lg tb ?_))
    first | refine G.condD rfl (fun hc => ?_) (fun hc => ?_) | refine G.condN rfl (fun hc => ?_) (fun hc => ?_) | refine G.cond rfl (fun hc => ?_) (fun hc => ?_)
    · have hc1 : Rx.isB s a 63 = true := hc
      rw [hc1] at hp5
      simp only [if_true] at hp5
      have hxx := hp5.bx
      try (first | refine gl tb ?_ | refine gg tb ?_ | refine ll tb ?_ | refine lg tb ?_); repeat ((first | refine G.condT rfl ?_ | refine G.condF rfl ?_ | refine sFa tb ?_ | refine sLd tb ?_ | refine sLa tb ?_ | refine sLen tb ?_ | refine sFd tb ?_ | refine sBd tb ?_ | refine sBa tb ?_); try (first | refine gl tb ?_ | refine gg tb ?_ | refine ll tb ?_ | refine lg tb ?_))
      refine sSf tb (fun W6 hb6 hw6 => ?_)
      have hp6 := hp5.st hw6 hb6
      clear hb6 hxx
      have hxx := hp6.bx
      try (first | refine gl tb ?_ | refine gg tb ?_ | refine ll tb ?_ | refine lg tb ?_); repeat ((first | refine G.condT rfl ?_ | refine G.condF rfl ?_ | refine sFa tb ?_ | refine sLd tb ?_ | refine sLa tb ?_ | refine sLen tb ?_ | refine sFd tb ?_ | refine sBd tb ?_ | refine sBa tb ?_); try (first | refine gl tb ?_ | refine gg tb ?_ | refine ll tb ?_ | refine lg tb ?_))
      refine sSf tb (fun W7 hb7 hw7 => ?_)
      have hp7 := hp6.st hw7 hb7
      try (first | refine gl tb ?_ | refine gg tb ?_ | refine ll tb ?_ | refine lg tb ?_); repeat ((first | refine G.condT rfl ?_ | refine G.condF rfl ?_ | refine sFa tb ?_ | refine sLd tb ?_ | refine sLa tb ?_ | refine sLen tb ?_ | refine sFd tb ?_ | refine sBd tb ?_ | refine sBa tb ?_); try (first | refine gl tb ?_ | refine gg tb ?_ | refine ll tb ?_ | refine lg tb ?_))
      exact G.met (0, 1, false, a + 1) (by repeat (first | exact Sub.nil _ | refine Sub.cons rfl ?_)) ⟨by unfold Rx.rept; rw [if_neg hn1, if_neg hn2, if_pos hc1], hp7, by simp only; omega, by simp only; omega, by simp only; omega⟩
    have hn3 : ¬ Rx.isB s a 63 = true := by rw [hc]; simp
    rw [if_neg hn3] at hp5
    try (first | refine gl tb ?_ | refine gg tb ?_ | refine ll tb ?_ | refine lg tb ?_); repeat ((first | refine G.condT rfl ?_ | refine G.condF rfl ?_ | refine sFa tb ?_ | refine sLd tb ?_ | refine sLa tb ?_ | refine sLen tb ?_ | refine sFd tb ?_ | refine sBd tb ?_ | refine sBa tb ?_); try (first | refine gl tb ?_ | refine gg tb ?_ | refine ll tb ?_ | refine lg tb ?_))
    refine sCall c73 (takes_ok 123 W5 rb s a g' hp5.rd) ?_
    rintro _ W6 ⟨rfl, hr6, hk6⟩
    have hp6 := hp5.to hk6 hr6
    clear hr6 hk6 hp5 hc
    try (first | refine gl tb ?_ | refine gg tb ?_ | refine ll tb ?_ | refine lg tb ?_); repeat ((first | refine G.condT rfl ?_ | refine G.condF rfl ?_ | refine sFa tb ?_ | refine sLd tb ?_ | refine sLa tb ?_ | refine sLen tb ?_ | refine sFd tb ?_ | refine sBd tb ?_ | refine sBa tb ?_); try (first | refine gl tb ?_ | refine gg tb ?_ | refine ll tb ?_ | refine lg tb ?_))
    first | refine G.condD rfl (fun hc => ?_) (fun hc => ?_) | refine G.condN rfl (fun hc => ?_) (fun hc => ?_) | refine G.cond rfl (fun hc => ?_) (fun hc => ?_)
    · have hc1 : Rx.isB s a 123 = true := hc
      rw [hc1] at hp6
      simp only [if_true] at hp6
      try (first | refine gl tb ?_ | refine gg tb ?_ | refine ll tb ?_ | refine lg tb ?_); repeat ((first | refine G.condT rfl ?_ | refine G.condF rfl ?_ | refine sFa tb ?_ | refine sLd tb ?_ | refine sLa tb ?_ | refine sLen tb ?_ | refine sFd tb ?_ | refine sBd tb ?_ | refine sBa tb ?_); try (first | refine gl tb ?_ | refine gg tb ?_ | refine ll tb ?_ | refine lg tb ?_))
      refine sCallP c90 (braces_ok W6 rb s (a + 1) g' hp6.rd) (fun ch w' hz => px_P rfl rfl ?_) ?_
      · obtain ⟨e, he, hw, hk2⟩ := hz
        exact ⟨e, by unfold Rx.rept; rw [if_neg hn1, if_neg hn2, if_neg hn3, if_pos hc1, he], hw, hp6.kp.trans hk2⟩
      rintro _ W7 ⟨mn, mx, b, hEb, rfl, hab, hmn, hmx0, hmx1, hr7, hk7⟩
      have hp7 := hp6.to hk7 hr7
      clear hr7 hk7
      have hxx := hp7.bx
      try (first | refine gl tb ?_ | refine gg tb ?_ | refine ll tb ?_ | refine lg tb ?_); repeat ((first | refine G.condT rfl ?_ | refine G.condF rfl ?_ | refine sFa tb ?_ | refine sLd tb ?_ | refine sLa tb ?_ | refine sLen tb ?_ | refine sFd tb ?_ | refine sBd tb ?_ | refine sBa tb ?_); try (first | refine gl tb ?_ | refine gg tb ?_ | refine ll tb ?_ | refine lg tb ?_))
      refine sSf tb (fun W8 hb8 hw8 => ?_)
      have hp8 := hp7.st hw8 hb8
      clear hb8 hxx
      have hxx := hp8.bx
      try (first | refine gl tb ?_ | refine gg tb ?_ | refine ll tb ?_ | refine lg tb ?_); repeat ((first | refine G.condT rfl ?_ | refine G.condF rfl ?_ | refine sFa tb ?_ | refine sLd tb ?_ | refine sLa tb ?_ | refine sLen tb ?_ | refine sFd tb ?_ | refine sBd tb ?_ | refine sBa tb ?_); try (first | refine gl tb ?_ | refine gg tb ?_ | refine ll tb ?_ | refine lg tb ?_))
      refine sSf tb (fun W9 hb9 hw9 => ?_)
      have hp9 := hp8.st hw9 hb9
      try (first | refine gl tb ?_ | refine gg tb ?_ | refine ll tb ?_ | refine lg tb ?_); repeat ((first | refine G.condT rfl ?_ | refine G.condF rfl ?_ | refine sFa tb ?_ | refine sLd tb ?_ | refine sLa tb ?_ | refine sLen tb ?_ | refine sFd tb ?_ | refine sBd tb ?_ | refine sBa tb ?_); try (first | refine gl tb ?_ | refine gg tb ?_ | refine ll tb ?_ | refine lg tb ?_))
      exact G.met (mn, mx, false, b) (by repeat (first | exact Sub.nil _ | refine Sub.cons rfl ?_)) ⟨by unfold Rx.rept; rw [if_neg hn1, if_neg hn2, if_neg hn3, if_pos hc1, hEb], hp9, by simp only; omega, by simp only; omega, by simp only; omega⟩
    have hn4 : ¬ Rx.isB s a 123 = true := by rw [hc]; simp
    rw [if_neg hn4] at hp6
    try (first | refine gl tb ?_ | refine gg tb ?_ | refine ll tb ?_ | refine lg tb ?_); repeat ((first | refine G.condT rfl ?_ | refine G.condF rfl ?_ | refine sFa tb ?_ | refine sLd tb ?_ | refine sLa tb ?_ | refine sLen tb ?_ | refine sFd tb ?_ | refine sBd tb ?_ | refine sBa tb ?_); try (first | refine gl tb ?_ | refine gg tb ?_ | refine ll tb ?_ | refine lg tb ?_))
    refine G.retP1 rfl rfl rfl rfl ?_
    have hR : Rx.rept s a = .ok none := by unfold Rx.rept; rw [if_neg hn1, if_neg hn2, if_neg hn3, if_neg hn4]
    exact ⟨t, a, g', by rw [hR], hp6.tr.same fun q hq hA => ⟨rfl, hA.1⟩, hp6.rd, hp6.kp, hia⟩
  rintro ⟨mn, mx, plus, b⟩ W3 ⟨hR, hp3, hib, hmn, hmx⟩
  simp only at hp3 hib hmn hmx ⊢
  rw [hR]
  simp only
  try (first | refine gl tb ?_ | refine gg tb ?_ | refine ll tb ?_ | refine lg tb ?_); repeat ((first | refine G.condT rfl ?_ | refine G.condF rfl ?_ | refine sFa tb ?_ | refine sLd tb ?_ | refine sLa tb ?_ | refine sLen tb ?_ | refine sFd tb ?_ | refine sBd tb ?_ | refine sBa tb ?_); try (first | refine gl tb ?_ | refine gg tb ?_ | refine ll tb ?_ | refine lg tb ?_))
  refine sCall c73 (takes_ok 63 W3 rb s b g' hp3.rd) ?_
  rintro _ W4 ⟨rfl, hr4, hk4⟩
  have hp4 := hp3.to hk4 hr4
  clear hr4 hk4
  have hxx := hp4.bx
  try (first | refine gl tb ?_ | refine gg tb ?_ | refine ll tb ?_ | refine lg tb ?_); repeat ((first | refine G.condT rfl ?_ | refine G.condF rfl ?_ | refine sFa tb ?_ | refine sLd tb ?_ | refine sLa tb ?_ | refine sLen tb ?_ | refine sFd tb ?_ | refine sBd tb ?_ | refine sBa tb ?_); try (first | refine gl tb ?_ | refine gg tb ?_ | refine ll tb ?_ | refine lg tb ?_))
  refine sSf tb (fun W5 hb5 hw5 => ?_)
  have hp5 := hp4.st hw5 hb5
  try (first | refine gl tb ?_ | refine gg tb ?_ | refine ll tb ?_ | refine lg tb ?_); repeat ((first | refine G.condT rfl ?_ | refine G.condF rfl ?_ | refine sFa tb ?_ | refine sLd tb ?_ | refine sLa tb ?_ | refine sLen tb ?_ | refine sFd tb ?_ | refine sBd tb ?_ | refine sBa tb ?_); try (first | refine gl tb ?_ | refine gg tb ?_ | refine ll tb ?_ | refine lg tb ?_))
  refine G.retP1 rfl rfl rfl rfl ?_
  have hN : Tr W5 (fun b => w.heap.size ≤ b) (.rep mn mx (Rx.isB s b 63) plus t) (ptr xb) :=
    .mk xb nilV _ [ptr ub] hp5.ge hp5.bx (RowA.nil _ _ _ _) ⟨by simp [spansT, Small], by simp [numT], hmn, hmx⟩ ⟨hp5.ow.mono (Nat.zero_le _), fun q e => (hp5.ow.lt q e).1⟩ rfl (one_kid (hp5.tr.same fun q hq hA => ⟨rfl, hA.1⟩))
  revert hN hp5
  cases Rx.isB s b 63 <;> intro hp5 hN
  · exact ⟨_, _, _, rfl, hN, hp5.rd, hp5.kp, hib⟩
  · exact ⟨_, _, _, rfl, hN, hp5.rd, hp5.kp, by omega⟩
end Go.Proofs.YtbpkhgehchelhaaDoor
