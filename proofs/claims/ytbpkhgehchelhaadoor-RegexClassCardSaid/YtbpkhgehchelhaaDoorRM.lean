/- regex: rows and alternatives, walked; all of the reader. -/
import Derived.Test.YtbpkhgehchelhaaDoorRL
open Go Go.Vg Go.RowKit Go.Proofs Go.Proofs.YtbpkhgehchelhaaDoor
namespace Go.Proofs.YtbpkhgehchelhaaDoor
set_option linter.unusedSimpArgs false

/-- a row under way -/
structure Sq (w W : World) (rb : Nat) (s : List UInt8) (a g : Nat) (l : List Rx.T) (us : List Value) (v : Value) : Prop where
  rd : Rd W rb s a g
  kp : Kp rb w W
  lt : rb < w.heap.size
  ow : Owns W w.heap.size v 65 1 (us.map fun u => [u])
  len : us.length = l.length
  tr : ∀ (i : Nat) (t : Rx.T) (u : Value), l[i]? = some t → us[i]? = some u → Tr W (fun b => w.heap.size ≤ b ∧ v.ownBlock ≠ some b) t u
theorem Sq.to {w W W' : World} {rb : Nat} {s : List UInt8} {a a' g g' : Nat} {l : List Rx.T} {us : List Value} {v : Value} (h : Sq w W rb s a g l us v) (hk : Kp rb W W') (hr : Rd W' rb s a' g') : Sq w W' rb s a' g' l us v :=
  ⟨hr, h.kp.trans hk, h.lt, h.ow.kp hk h.lt, h.len, fun i t u h1 h2 => (h.tr i t u h1 h2).same fun q hq hA => ⟨hk.block q hq (by have := hA.1; have := h.lt; omega), hA⟩⟩
theorem Sq.ext {w W W' : World} {rb : Nat} {s : List UInt8} {a g : Nat} {l : List Rx.T} {us : List Value} {v : Value} (h : Sq w W rb s a g l us v) (hk : Ext W W') : Sq w W' rb s a g l us v := h.to hk.kp (h.rd.to hk)

set_option maxHeartbeats 4000000 in
theorem chain_ok (n : Nat) (hA : ∀ m, m < n → RepC m) : SeqC (n + 1) := by
  intro w rb s i g h hn
  have hP : Rx.parse s (n + 1) .seq i g = Rx.parse s n (.seqL []) i g := by rw [Rx.parse]
  rw [hP]
  simp only [Rx.need] at hn
  refine ret_of_GP Tryd.func72 rfl Tryd.ntmps72 rfl ?_
  simp only [argEnv]
  try (first | refine gl tb ?_ | refine gg tb ?_ | refine ll tb ?_ | refine lg tb ?_); repeat ((first | refine G.condT rfl ?_ | refine G.condF rfl ?_ | refine sFa tb ?_ | refine sLd tb ?_ | refine sLa tb ?_ | refine sLen tb ?_ | refine sFd tb ?_ | refine sBd tb ?_ | refine sBa tb ?_); try (first | refine gl tb ?_ | refine gg tb ?_ | refine ll tb ?_ | refine lg tb ?_))
  refine (G.loop (fun p : Nat × Nat × Nat × List Rx.T × List Value × Value => [(0, none, ptr rb), (3, none, p.2.2.2.2.2)])
    (fun p W => Sq w W rb s p.2.1 p.2.2.1 p.2.2.2.1 p.2.2.2.2.1 p.2.2.2.2.2 ∧ i ≤ p.2.1 ∧ p.2.2.2.1.length ≤ p.2.1 ∧ p.1 ≤ n ∧ 6 * (s.length - p.2.1) + 2 ≤ p.1 ∧ Rx.parse s p.1 (.seqL p.2.2.2.1) p.2.1 p.2.2.1 = Rx.parse s n (.seqL []) i g) (fun p => p.1)
    (n, i, g, [], [], nilV) (by repeat (first | exact Sub.nil _ | refine Sub.cons rfl ?_)) ⟨⟨h, Kp.refl _ _, h.bx.lt, Owns.nil _ _ _ _, rfl, fun i t u h1 => by simp at h1⟩, by simp, by simp, by simp, by simp only; omega, rfl⟩ ?_)
  rintro ⟨m, a, g1, l, us, v⟩ W ⟨hq, hia, hla, hmn, hma, hL⟩
  simp only at hq hia hla hmn hma hL ⊢
  obtain ⟨m, rfl⟩ : ∃ k, m = k + 1 := ⟨m - 1, by omega⟩
  rw [Rx.parse_seqL] at hL
  have hai := hq.rd.hi
  have hsz := hq.rd.hs
  try (first | refine gl tb ?_ | refine gg tb ?_ | refine ll tb ?_ | refine lg tb ?_); repeat ((first | refine G.condT rfl ?_ | refine G.condF rfl ?_ | refine sFa tb ?_ | refine sLd tb ?_ | refine sLa tb ?_ | refine sLen tb ?_ | refine sFd tb ?_ | refine sBd tb ?_ | refine sBa tb ?_); try (first | refine gl tb ?_ | refine gg tb ?_ | refine ll tb ?_ | refine lg tb ?_))
  refine sCall c55 (more_ok W rb s a g1 hq.rd) ?_
  rintro _ W1 ⟨rfl, hx1⟩
  have hq1 := hq.ext hx1
  try (first | refine gl tb ?_ | refine gg tb ?_ | refine ll tb ?_ | refine lg tb ?_); repeat ((first | refine G.condT rfl ?_ | refine G.condF rfl ?_ | refine sFa tb ?_ | refine sLd tb ?_ | refine sLa tb ?_ | refine sLen tb ?_ | refine sFd tb ?_ | refine sBd tb ?_ | refine sBa tb ?_); try (first | refine gl tb ?_ | refine gg tb ?_ | refine ll tb ?_ | refine lg tb ?_))
  refine sCallx c83 (fun hc => is_ok 124 W1 rb s a g1 hq1.rd) ?_
  intro W2 hx2
  have hq2 := hq1.ext hx2
  try (first | refine gl tb ?_ | refine gg tb ?_ | refine ll tb ?_ | refine lg tb ?_); repeat ((first | refine G.condT rfl ?_ | refine G.condF rfl ?_ | refine sFa tb ?_ | refine sLd tb ?_ | refine sLa tb ?_ | refine sLen tb ?_ | refine sFd tb ?_ | refine sBd tb ?_ | refine sBa tb ?_); try (first | refine gl tb ?_ | refine gg tb ?_ | refine ll tb ?_ | refine lg tb ?_))
  refine sCallx c83 (fun hc => is_ok 41 W2 rb s a g1 hq2.rd) ?_
  intro W3 hx3
  have hq3 := hq2.ext hx3
  try (first | refine gl tb ?_ | refine gg tb ?_ | refine ll tb ?_ | refine lg tb ?_); repeat ((first | refine G.condT rfl ?_ | refine G.condF rfl ?_ | refine sFa tb ?_ | refine sLd tb ?_ | refine sLa tb ?_ | refine sLen tb ?_ | refine sFd tb ?_ | refine sBd tb ?_ | refine sBa tb ?_); try (first | refine gl tb ?_ | refine gg tb ?_ | refine ll tb ?_ | refine lg tb ?_))
  clear hq hq1 hq2 hx1 hx2 hx3
  have hccE : (decide (a < s.length) && !Rx.isB s a 124 && !Rx.isB s a 41) = true ↔ (a < s.length ∧ ¬ Rx.isB s a 124 = true ∧ ¬ Rx.isB s a 41 = true) := by
    simp only [Bool.and_eq_true, decide_eq_true_eq, Bool.not_eq_true', Bool.not_eq_true, and_assoc]
  first | refine G.condD rfl (fun hc => ?_) (fun hc => ?_) | refine G.condN rfl (fun hc => ?_) (fun hc => ?_) | refine G.cond rfl (fun hc => ?_) (fun hc => ?_)
  · have hcc := hccE.1 hc
    rw [if_pos hcc] at hL
    clear hc hccE
    try (first | refine gl tb ?_ | refine gg tb ?_ | refine ll tb ?_ | refine lg tb ?_); repeat ((first | refine G.condT rfl ?_ | refine G.condF rfl ?_ | refine sFa tb ?_ | refine sLd tb ?_ | refine sLa tb ?_ | refine sLen tb ?_ | refine sFd tb ?_ | refine sBd tb ?_ | refine sBa tb ?_); try (first | refine gl tb ?_ | refine gg tb ?_ | refine ll tb ?_ | refine lg tb ?_))
    refine sCallP c84 (hA m (by omega) W3 rb s a g1 hq3.rd (by simp only [Rx.need]; omega)) (fun ch w' hz => px_P rfl rfl ?_) ?_
    · obtain ⟨e, he, hw, hk⟩ := hz
      exact ⟨e, by rw [← hL, he], hw, hq3.kp.trans hk⟩
    rintro u W4 ⟨t, b, g2, hE, hT, hr4, hk4, hab⟩
    rw [hE] at hL
    simp only at hL
    obtain ⟨ub, rfl⟩ := hT.isPtr
    have hq4 := hq3.to hk4 hr4
    have hbs := hr4.hi
    try (first | refine gl tb ?_ | refine gg tb ?_ | refine ll tb ?_ | refine lg tb ?_); repeat ((first | refine G.condT rfl ?_ | refine G.condF rfl ?_ | refine sFa tb ?_ | refine sLd tb ?_ | refine sLa tb ?_ | refine sLen tb ?_ | refine sFd tb ?_ | refine sBd tb ?_ | refine sBa tb ?_); try (first | refine gl tb ?_ | refine gg tb ?_ | refine ll tb ?_ | refine lg tb ?_))
    refine sBs' tb [[ptr ub]] (fun ks W5 ho5 hs5 hx5 => ?_)
    have hq5 := hq4.ext hx5
    have hlen : (us.map fun u => [u]).length = l.length := by rw [List.length_map, hq5.len]
    have hsz5 := hq5.kp.size
    try (first | refine gl tb ?_ | refine gg tb ?_ | refine ll tb ?_ | refine lg tb ?_); repeat ((first | refine G.condT rfl ?_ | refine G.condF rfl ?_ | refine sFa tb ?_ | refine sLd tb ?_ | refine sLa tb ?_ | refine sLen tb ?_ | refine sFd tb ?_ | refine sBd tb ?_ | refine sBa tb ?_); try (first | refine gl tb ?_ | refine gg tb ?_ | refine ll tb ?_ | refine lg tb ?_))
    refine sApp2 tb hq5.ow ho5.sli (fun v' W6 hv6 hg6 ho6 => ?_) (hb := by rw [hlen]; simp only [List.length_cons, List.length_nil]; omega) (hl := by rw [hlen]; simp only [List.length_cons, List.length_nil]; omega)
    try (first | refine gl tb ?_ | refine gg tb ?_ | refine ll tb ?_ | refine lg tb ?_); repeat ((first | refine G.condT rfl ?_ | refine G.condF rfl ?_ | refine sFa tb ?_ | refine sLd tb ?_ | refine sLa tb ?_ | refine sLen tb ?_ | refine sFd tb ?_ | refine sBd tb ?_ | refine sBa tb ?_); try (first | refine gl tb ?_ | refine gg tb ?_ | refine ll tb ?_ | refine lg tb ?_))
    have hown : ∀ q, v.ownBlock = some q → w.heap.size ≤ q ∧ q < W3.heap.size := hq3.ow.lt
    have hst : ∀ q, q < W5.heap.size → v.ownBlock ≠ some q → W6.heap[q]? = W5.heap[q]? ∧ v'.ownBlock ≠ some q := fun q hq hne =>
      ⟨hg6.block q hq fun e => hne e.symm, hq5.ow.own2 ho6 hq hne⟩
    have hT5 := hT.ext hx5
    have hq6 : Sq w W6 rb s b g2 (l ++ [t]) (us ++ [ptr ub]) v' := by
      refine ⟨hq5.rd.kp hg6.kp ?_, hq5.kp.grew hg6 (fun q e => (hown q e).1) (Nat.le_refl _), hq5.lt, by rw [List.map_append]; exact hv6, by simp [hq5.len], ?_⟩
      · rcases ho : v.ownBlock with _ | q
        · have := hq5.rd.bx.lt; simpa using this
        · have := (hown q ho).1; have := hq5.lt; simp only [Option.getD_some]; omega
      · intro i t' u' h1 h2
        by_cases hi : i < l.length
        · rw [List.getElem?_append_left hi] at h1
          rw [List.getElem?_append_left (by rw [hq5.len]; exact hi)] at h2
          exact (hq5.tr i t' u' h1 h2).same fun q hq hA => ⟨(hst q hq hA.2).1, hA.1, (hst q hq hA.2).2⟩
        · rw [List.getElem?_append_right (by omega)] at h1
          rw [List.getElem?_append_right (by rw [hq5.len]; omega), hq5.len] at h2
          refine (one_kid hT5 (i - l.length) t' u' h1 h2).same fun q hq hA => ?_
          have hA : W3.heap.size ≤ q := hA
          have hne : v.ownBlock ≠ some q := fun e => by have := (hown q e).2; omega
          exact ⟨(hst q hq hne).1, by have := hq3.kp.size; omega, (hst q hq hne).2⟩
    exact G.lp (x := (m + 1, a, g1, l, us, v)) (m, b, g2, l ++ [t], us ++ [ptr ub], v') (by repeat (first | exact Sub.nil _ | refine Sub.cons rfl ?_)) ⟨hq6, by simp only; omega, by simp only [List.length_append, List.length_cons, List.length_nil]; omega, by simp only; omega, by simp only; omega, hL⟩ (by simp only; omega)
  · have hcc : ¬ (a < s.length ∧ ¬ Rx.isB s a 124 = true ∧ ¬ Rx.isB s a 41 = true) := fun h2 => by rw [hccE.2 h2] at hc; cases hc
    rw [if_neg hcc] at hL
    clear hc hccE
    have hlen : (us.map fun u => [u]).length = l.length := by rw [List.length_map, hq3.len]
    have hvs := hq3.ow.sli
    try (first | refine gl tb ?_ | refine gg tb ?_ | refine ll tb ?_ | refine lg tb ?_); repeat ((first | refine G.condT rfl ?_ | refine G.condF rfl ?_ | refine sFa tb ?_ | refine sLd tb ?_ | refine sLa tb ?_ | refine sLen tb ?_ | refine sFd tb ?_ | refine sBd tb ?_ | refine sBa tb ?_); try (first | refine gl tb ?_ | refine gg tb ?_ | refine ll tb ?_ | refine lg tb ?_))
    rw [hlen]
    try (first | refine gl tb ?_ | refine gg tb ?_ | refine ll tb ?_ | refine lg tb ?_); repeat ((first | refine G.condT rfl ?_ | refine G.condF rfl ?_ | refine sFa tb ?_ | refine sLd tb ?_ | refine sLa tb ?_ | refine sLen tb ?_ | refine sFd tb ?_ | refine sBd tb ?_ | refine sBa tb ?_); try (first | refine gl tb ?_ | refine gg tb ?_ | refine ll tb ?_ | refine lg tb ?_))
    first | refine G.condD rfl (fun hc => ?_) (fun hc => ?_) | refine G.condN rfl (fun hc => ?_) (fun hc => ?_) | refine G.cond rfl (fun hc => ?_) (fun hc => ?_)
    · have hl0 : l = [] := List.length_eq_zero_iff.1 (by omega)
      subst hl0
      rw [if_pos rfl] at hL
      try (first | refine gl tb ?_ | refine gg tb ?_ | refine ll tb ?_ | refine lg tb ?_); repeat ((first | refine G.condT rfl ?_ | refine G.condF rfl ?_ | refine sFa tb ?_ | refine sLd tb ?_ | refine sLa tb ?_ | refine sLen tb ?_ | refine sFd tb ?_ | refine sBd tb ?_ | refine sBa tb ?_); try (first | refine gl tb ?_ | refine gg tb ?_ | refine ll tb ?_ | refine lg tb ?_))
      refine sBox (fun W4 hb4 hs4 hx4 => ?_)
      try (first | refine gl tb ?_ | refine gg tb ?_ | refine ll tb ?_ | refine lg tb ?_); repeat ((first | refine G.condT rfl ?_ | refine G.condF rfl ?_ | refine sFa tb ?_ | refine sLd tb ?_ | refine sLa tb ?_ | refine sLen tb ?_ | refine sFd tb ?_ | refine sBd tb ?_ | refine sBa tb ?_); try (first | refine gl tb ?_ | refine gg tb ?_ | refine ll tb ?_ | refine lg tb ?_))
      refine G.retP1 rfl rfl rfl rfl ?_
      exact ⟨.emp, a, g1, hL.symm, .mk W3.heap.size nilV nilV [] hq3.kp.size hb4 (RowA.nil _ _ _ _) (by simp [TrB, spansT, Small, numT, mnT, mxT]) (RowA.nil _ _ _ _) rfl (fun i t' u h1 => by simp [kidsT] at h1), hq3.rd.to hx4, hq3.kp.trans hx4.kp, hia⟩
    · have hl0 : l ≠ [] := fun e => by subst e; simp at hc
      rw [if_neg hl0] at hL
      obtain ⟨va, vc, hve, _⟩ := hvs.len
      subst hve
      try (first | refine gl tb ?_ | refine gg tb ?_ | refine ll tb ?_ | refine lg tb ?_); repeat ((first | refine G.condT rfl ?_ | refine G.condF rfl ?_ | refine sFa tb ?_ | refine sLd tb ?_ | refine sLa tb ?_ | refine sLen tb ?_ | refine sFd tb ?_ | refine sBd tb ?_ | refine sBa tb ?_); try (first | refine gl tb ?_ | refine gg tb ?_ | refine ll tb ?_ | refine lg tb ?_))
      refine sBox (fun W4 hb4 hs4 hx4 => ?_)
      try (first | refine gl tb ?_ | refine gg tb ?_ | refine ll tb ?_ | refine lg tb ?_); repeat ((first | refine G.condT rfl ?_ | refine G.condF rfl ?_ | refine sFa tb ?_ | refine sLd tb ?_ | refine sLa tb ?_ | refine sLen tb ?_ | refine sFd tb ?_ | refine sBd tb ?_ | refine sBa tb ?_); try (first | refine gl tb ?_ | refine gg tb ?_ | refine ll tb ?_ | refine lg tb ?_))
      refine G.retP1 rfl rfl rfl rfl ?_
      have hq4 := hq3.ext hx4
      exact ⟨.seq l, a, g1, hL.symm, .mk W3.heap.size nilV _ us hq3.kp.size hb4 (RowA.nil _ _ _ _) (by simp [TrB, spansT, Small, numT, mnT, mxT]) ⟨hq4.ow.mono (Nat.zero_le _), fun q e => (hq4.ow.lt q e).1⟩ hq4.len (fun i t' u h1 h2 => (hq4.tr i t' u h1 h2).same fun q hq hA => ⟨rfl, hA.1⟩), hq4.rd, hq4.kp, hia⟩

set_option maxHeartbeats 4000000 in
theorem either_ok (n : Nat) (hA : ∀ m, m ≤ n → SeqC m) : AltC (n + 1) := by
  intro w rb s i g h hn
  simp only [Rx.need] at hn
  have hP : ∀ e, Rx.parse s n .seq i g = .error e → Rx.parse s (n + 1) .alt i g = .error e := fun e he => by rw [Rx.parse, he]
  have hP2 : ∀ t a g', Rx.parse s n .seq i g = .ok (t, a, g') → Rx.parse s (n + 1) .alt i g = Rx.parse s n (.altL t) a g' := fun t a g' he => by rw [Rx.parse, he]
  refine ret_of_GP Tryd.func54 rfl Tryd.ntmps54 rfl ?_
  simp only [argEnv]
  try (first | refine gl tb ?_ | refine gg tb ?_ | refine ll tb ?_ | refine lg tb ?_); repeat ((first | refine G.condT rfl ?_ | refine G.condF rfl ?_ | refine sFa tb ?_ | refine sLd tb ?_ | refine sLa tb ?_ | refine sLen tb ?_ | refine sFd tb ?_ | refine sBd tb ?_ | refine sBa tb ?_); try (first | refine gl tb ?_ | refine gg tb ?_ | refine ll tb ?_ | refine lg tb ?_))
  refine sCallP c72 (hA n (Nat.le_refl _) w rb s i g h (by simp only [Rx.need]; omega)) (fun ch w' hz => px_P rfl rfl ?_) ?_
  · obtain ⟨e, he, hw, hk⟩ := hz
    exact ⟨e, hP e he, hw, hk⟩
  rintro v W ⟨t0, a0, g0, hE, hT0, hr0, hk0, hia0⟩
  rw [hP2 _ _ _ hE]
  try (first | refine gl tb ?_ | refine gg tb ?_ | refine ll tb ?_ | refine lg tb ?_); repeat ((first | refine G.condT rfl ?_ | refine G.condF rfl ?_ | refine sFa tb ?_ | refine sLd tb ?_ | refine sLa tb ?_ | refine sLen tb ?_ | refine sFd tb ?_ | refine sBd tb ?_ | refine sBa tb ?_); try (first | refine gl tb ?_ | refine gg tb ?_ | refine ll tb ?_ | refine lg tb ?_))
  refine (G.loop (fun p : Nat × Nat × Nat × Rx.T × Value => [(0, none, ptr rb), (3, none, p.2.2.2.2)])
    (fun p W => Rd W rb s p.2.1 p.2.2.1 ∧ Kp rb w W ∧ Tr W (fun b => w.heap.size ≤ b) p.2.2.2.1 p.2.2.2.2 ∧ i ≤ p.2.1 ∧ p.1 ≤ n ∧ 6 * (s.length - p.2.1) + 1 ≤ p.1 ∧ Rx.parse s p.1 (.altL p.2.2.2.1) p.2.1 p.2.2.1 = Rx.parse s n (.altL t0) a0 g0) (fun p => p.1)
    (n, a0, g0, t0, v) (by repeat (first | exact Sub.nil _ | refine Sub.cons rfl ?_)) ⟨hr0, hk0, hT0, hia0, by simp, by simp only; omega, rfl⟩ ?_)
  rintro ⟨m, a, g1, t, u⟩ W1 ⟨hr1, hk1, hT1, hia, hmn, hma, hL⟩
  simp only at hr1 hk1 hT1 hia hmn hma hL ⊢
  obtain ⟨m, rfl⟩ : ∃ k, m = k + 1 := ⟨m - 1, by omega⟩
  rw [Rx.parse_altL] at hL
  obtain ⟨ub, rfl⟩ := hT1.isPtr
  have hlt := h.bx.lt
  try (first | refine gl tb ?_ | refine gg tb ?_ | refine ll tb ?_ | refine lg tb ?_); repeat ((first | refine G.condT rfl ?_ | refine G.condF rfl ?_ | refine sFa tb ?_ | refine sLd tb ?_ | refine sLa tb ?_ | refine sLen tb ?_ | refine sFd tb ?_ | refine sBd tb ?_ | refine sBa tb ?_); try (first | refine gl tb ?_ | refine gg tb ?_ | refine ll tb ?_ | refine lg tb ?_))
  refine sCall c73 (takes_ok 124 W1 rb s a g1 hr1) ?_
  rintro _ W2 ⟨rfl, hr2, hk2⟩
  have hT2 := hT1.kp hk2 hlt
  have hk2' := hk1.trans hk2
  try (first | refine gl tb ?_ | refine gg tb ?_ | refine ll tb ?_ | refine lg tb ?_); repeat ((first | refine G.condT rfl ?_ | refine G.condF rfl ?_ | refine sFa tb ?_ | refine sLd tb ?_ | refine sLa tb ?_ | refine sLen tb ?_ | refine sFd tb ?_ | refine sBd tb ?_ | refine sBa tb ?_); try (first | refine gl tb ?_ | refine gg tb ?_ | refine ll tb ?_ | refine lg tb ?_))
  first | refine G.condD rfl (fun hc => ?_) (fun hc => ?_) | refine G.condN rfl (fun hc => ?_) (fun hc => ?_) | refine G.cond rfl (fun hc => ?_) (fun hc => ?_)
  · have hc1 : Rx.isB s a 124 = true := hc
    rw [hc1] at hr2
    rw [if_pos hc1] at hL
    simp only [if_true] at hr2
    have := Rx.isB_lt hc1
    try (first | refine gl tb ?_ | refine gg tb ?_ | refine ll tb ?_ | refine lg tb ?_); repeat ((first | refine G.condT rfl ?_ | refine G.condF rfl ?_ | refine sFa tb ?_ | refine sLd tb ?_ | refine sLa tb ?_ | refine sLen tb ?_ | refine sFd tb ?_ | refine sBd tb ?_ | refine sBa tb ?_); try (first | refine gl tb ?_ | refine gg tb ?_ | refine ll tb ?_ | refine lg tb ?_))
    refine sCallP c72 (hA m (by omega) W2 rb s (a + 1) g1 hr2 (by simp only [Rx.need]; omega)) (fun ch w' hz => px_P rfl rfl ?_) ?_
    · obtain ⟨e, he, hw, hk⟩ := hz
      exact ⟨e, by rw [← hL, he], hw, hk2'.trans hk⟩
    rintro v3 W3 ⟨t3, a3, g3, hE3, hT3, hr3, hk3, hia3⟩
    rw [hE3] at hL
    simp only at hL
    obtain ⟨ub3, rfl⟩ := hT3.isPtr
    have hT23 := hT2.kp hk3 hlt
    have hk3' := hk2'.trans hk3
    try (first | refine gl tb ?_ | refine gg tb ?_ | refine ll tb ?_ | refine lg tb ?_); repeat ((first | refine G.condT rfl ?_ | refine G.condF rfl ?_ | refine sFa tb ?_ | refine sLd tb ?_ | refine sLa tb ?_ | refine sLen tb ?_ | refine sFd tb ?_ | refine sBd tb ?_ | refine sBa tb ?_); try (first | refine gl tb ?_ | refine gg tb ?_ | refine ll tb ?_ | refine lg tb ?_))
    refine sBs' tb [[ptr ub], [ptr ub3]] (fun ks W4 ho4 hs4 hx4 => ?_)
    obtain ⟨va, vc, hve, _⟩ := ho4.sli.len
    subst hve
    try (first | refine gl tb ?_ | refine gg tb ?_ | refine ll tb ?_ | refine lg tb ?_); repeat ((first | refine G.condT rfl ?_ | refine G.condF rfl ?_ | refine sFa tb ?_ | refine sLd tb ?_ | refine sLa tb ?_ | refine sLen tb ?_ | refine sFd tb ?_ | refine sBd tb ?_ | refine sBa tb ?_); try (first | refine gl tb ?_ | refine gg tb ?_ | refine ll tb ?_ | refine lg tb ?_))
    refine sBox (fun W5 hb5 hs5 hx5 => ?_)
    have hx45 := hx4.trans hx5
    have hs2 := hk2'.size
    have hs3 := hk3'.size
    have hN : Tr W5 (fun b => w.heap.size ≤ b) (.alt t t3) (ptr W4.heap.size) := .mk W4.heap.size nilV _ [ptr ub, ptr ub3] (by have := hx4.size; show w.heap.size ≤ W4.heap.size; omega) hb5 (RowA.nil _ _ _ _) (by simp [TrB, spansT, Small, numT, mnT, mxT])
      ⟨(ho4.to hx5).mono (Nat.zero_le _), fun q e => by have := (ho4.lt q e).1; show w.heap.size ≤ q; omega⟩ rfl (fun i t' u' h1 h2 => by
        rcases i with _ | _ | i
        · simp only [kidsT, List.getElem?_cons_zero, Option.some.injEq] at h1 h2
          subst h1 h2
          exact hT23.ext hx45
        · simp only [kidsT, List.getElem?_cons_succ, List.getElem?_cons_zero, Option.some.injEq] at h1 h2
          subst h1 h2
          exact (hT3.ext hx45).same fun q hq hA => ⟨rfl, Nat.le_trans hs2 hA⟩
        · simp [kidsT] at h1)
    have hr5 := hr3.to hx45
    try (first | refine gl tb ?_ | refine gg tb ?_ | refine ll tb ?_ | refine lg tb ?_); repeat ((first | refine G.condT rfl ?_ | refine G.condF rfl ?_ | refine sFa tb ?_ | refine sLd tb ?_ | refine sLa tb ?_ | refine sLen tb ?_ | refine sFd tb ?_ | refine sBd tb ?_ | refine sBa tb ?_); try (first | refine gl tb ?_ | refine gg tb ?_ | refine ll tb ?_ | refine lg tb ?_))
    exact G.lp (x := (m + 1, a, g1, t, ptr ub)) (m, a3, g3, .alt t t3, ptr W4.heap.size) (by repeat (first | exact Sub.nil _ | refine Sub.cons rfl ?_)) ⟨hr5, hk3'.trans hx45.kp, hN, by simp only; omega, by simp only; omega, by simp only; omega, hL⟩ (by simp only; omega)
  · have hc1 : ¬ Rx.isB s a 124 = true := by rw [hc]; simp
    rw [if_neg hc1] at hr2 hL
    try (first | refine gl tb ?_ | refine gg tb ?_ | refine ll tb ?_ | refine lg tb ?_); repeat ((first | refine G.condT rfl ?_ | refine G.condF rfl ?_ | refine sFa tb ?_ | refine sLd tb ?_ | refine sLa tb ?_ | refine sLen tb ?_ | refine sFd tb ?_ | refine sBd tb ?_ | refine sBa tb ?_); try (first | refine gl tb ?_ | refine gg tb ?_ | refine ll tb ?_ | refine lg tb ?_))
    refine G.retP1 rfl rfl rfl rfl ?_
    exact ⟨t, a, g1, hL.symm, hT2, hr2, hk2', hia⟩

theorem thing0 : ThingC 0 := by
  intro w rb s i g h hn
  have hi : s.length - i ≤ 0 := by simp only [Rx.need] at hn; omega
  have hE : Rx.parse s 0 .thing i g = .error i := by rw [Rx.parse]
  have := h.hi
  have hbx := h.bx
  unfold rdC at hbx
  rw [hE]
  refine ret_of_GP Tryd.func89 rfl Tryd.ntmps89 rfl ?_
  simp only [argEnv]
  try (first | refine gl tb ?_ | refine gg tb ?_ | refine ll tb ?_ | refine lg tb ?_); repeat ((first | refine G.condT rfl ?_ | refine G.condF rfl ?_ | refine sFa tb ?_ | refine sLd tb ?_ | refine sLa tb ?_ | refine sLen tb ?_ | refine sFd tb ?_ | refine sBd tb ?_ | refine sBa tb ?_); try (first | refine gl tb ?_ | refine gg tb ?_ | refine ll tb ?_ | refine lg tb ?_))
  refine sCallP c94 (char_ok w rb s i g h) (fun ch w' hz => px_P rfl rfl ?_) ?_
  · exact ⟨i, rfl, hz.2.1, hz.2.2⟩
  rintro _ W ⟨hlt, _⟩
  omega
theorem reader_ok : ∀ n, AltC n ∧ SeqC n ∧ RepC n ∧ ThingC n := by
  intro n
  induction n using Nat.strongRecOn with
  | ind n ih =>
    cases n with
    | zero =>
      exact ⟨fun w rb s i g h hn => by simp [Rx.need] at hn, fun w rb s i g h hn => by simp [Rx.need] at hn, fun w rb s i g h hn => by simp [Rx.need] at hn, thing0⟩
    | succ n => exact ⟨either_ok n fun m hm => (ih m (by omega)).2.1, chain_ok n fun m hm => (ih m (by omega)).2.2.1, rep_ok n (ih n (by omega)).2.2.2, thing_ok n (ih n (by omega)).1⟩
end Go.Proofs.YtbpkhgehchelhaaDoor
