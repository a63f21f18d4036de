/- regex: numbers behind a brace, walked. -/
import Derived.Test.YtbpkhgehchelhaaDoorRB
import Derived.Test.YtbpkhgehchelhaaDoorGV2
open Go Go.Vg Go.RowKit Go.Proofs Go.Proofs.YtbpkhgehchelhaaDoor
namespace Go.Proofs.YtbpkhgehchelhaaDoor
set_option linter.unusedSimpArgs false

theorem wrap_u8 {n : Int} (h0 : 0 ≤ n) (h1 : n ≤ 255) : IntKind.u8.wrap n = n := by
  have hb : IntKind.u8.bits = 8 := rfl
  have hs : IntKind.u8.signed = false := rfl
  unfold IntKind.wrap
  simp only [hb, hs, Bool.false_and, decide_eq_true_eq]
  have e1 : (2 : Int) ^ 8 = 256 := by decide
  rw [e1]
  simp
  omega

set_option maxHeartbeats 1000000 in
theorem count_ok (w : World) (rb : Nat) (s : List UInt8) (i g : Nat) (h : Rd w rb s i g) :
    RetP Tryd.prog 99 ⟨[ptr rb]⟩ w (fun r w' => ∃ n a, Rx.count s i = .ok (n, a) ∧ r = .int .i64 (n : Nat) ∧ i < a ∧ n ≤ 101 ∧ Rd w' rb s a g ∧ Kp rb w w') (fun ch w' => ∃ e, Rx.count s i = .error e ∧ Wrong e ch ∧ Kp rb w w') := by
  have hbx := h.bx
  have hi := h.hi
  have hs := h.hs
  unfold rdC at hbx
  refine ret_of_GP Tryd.func99 rfl Tryd.ntmps99 rfl ?_
  simp only [argEnv]
  try (first | refine gl tb ?_ | refine gg tb ?_ | refine ll tb ?_ | refine lg tb ?_); repeat ((first | refine G.condT rfl ?_ | refine G.condF rfl ?_ | refine sFa tb ?_ | refine sLd tb ?_ | refine sLa tb ?_ | refine sLen tb ?_ | refine sFd tb ?_ | refine sBd tb ?_ | refine sBa tb ?_); try (first | refine gl tb ?_ | refine gg tb ?_ | refine ll tb ?_ | refine lg tb ?_))
  refine (G.loop (fun p : Nat × Nat => [(0, none, ptr rb), (3, none, .int .i64 i), (4, none, .int .i64 p.2)]) (fun p W => Rd W rb s p.1 g ∧ Kp rb w W ∧ i ≤ p.1 ∧ p.2 ≤ 101 ∧ Rx.countL s i (s.length - p.1) p.1 p.2 = Rx.countL s i (s.length - i) i 0) (fun p => s.length - p.1) (i, 0) (by repeat (first | exact Sub.nil _ | refine Sub.cons rfl ?_)) ⟨h, Kp.refl _ _, by simp, by simp, rfl⟩ ?_)
  rintro ⟨a, n⟩ W ⟨hr, hk, hia, hn, hL⟩
  simp only at hr hk hia hn hL ⊢
  have hbx := hr.bx
  have ha := hr.hi
  unfold rdC at hbx
  try (first | refine gl tb ?_ | refine gg tb ?_ | refine ll tb ?_ | refine lg tb ?_); repeat ((first | refine G.condT rfl ?_ | refine G.condF rfl ?_ | refine sFa tb ?_ | refine sLd tb ?_ | refine sLa tb ?_ | refine sLen tb ?_ | refine sFd tb ?_ | refine sBd tb ?_ | refine sBa tb ?_); try (first | refine gl tb ?_ | refine gg tb ?_ | refine ll tb ?_ | refine lg tb ?_))
  refine G.regionM [(0, true), (1, false), (2, true), (3, true), (4, true), (5, true), (6, true), (7, true), (8, true), (9, true), (10, true), (11, true), (12, true), (13, true), (14, true), (15, true), (16, true), (17, true), (18, true), (19, true), (20, true), (21, true), (22, true), (23, true), (24, true), (25, true), (26, true), (27, true), (28, true), (29, true), (30, true), (31, true), (32, true), (33, true), (34, true), (35, true), (36, true), (37, true), (38, true), (39, true), (40, true), (41, true), (42, true)] (Ext W) (by kernel_rfl) (by kernel_rfl) rfl mixed (Ext.drew W) rfl ?_
  try (refine mm tb ?_); repeat ((first | refine dFa tb ?_ | refine dLd tb ?_ | refine dLa tb ?_ | refine dLen tb ?_ | refine dFd tb ?_); try (refine mm tb ?_))
  refine GM.eff (Step.callX rfl rfl (by repeat (first | exact OpL.nil | refine OpL.cons (Op1.of rfl (by first | exact fun _ => rfl | exact fun h => h | exact fun h => bL h | exact fun h => bL (bL h) | exact fun h => bL (bL (bL h)))) ?_)) c55 rfl (fun hc => more_ok W.drew rb s a g (hr.to (Ext.drew W))) ?_)
  intro W1 hx1
  have hx1 := (Ext.drew W).trans hx1
  refine ⟨hx1, ?_⟩
  try (refine mm tb ?_); repeat ((first | refine dFa tb ?_ | refine dLd tb ?_ | refine dLa tb ?_ | refine dLen tb ?_ | refine dFd tb ?_); try (refine mm tb ?_))
  refine dBs tb a ?_ (hj := fun hc => ⟨rfl, by simp only [cv, Bool.and_eq_true, decide_eq_true_eq] at hc; omega⟩)
  try (refine mm tb ?_); repeat ((first | refine dFa tb ?_ | refine dLd tb ?_ | refine dLa tb ?_ | refine dLen tb ?_ | refine dFd tb ?_); try (refine mm tb ?_))
  refine dBs tb a ?_ (hj := fun hc => ⟨rfl, by simp only [cv, Bool.and_eq_true, decide_eq_true_eq] at hc; omega⟩)
  try (refine mm tb ?_); repeat ((first | refine dFa tb ?_ | refine dLd tb ?_ | refine dLa tb ?_ | refine dLen tb ?_ | refine dFd tb ?_); try (refine mm tb ?_))
  refine dBs tb i ?_ (hj := fun hc => ⟨rfl, by simp only [cv, Bool.and_eq_true, decide_eq_true_eq] at hc; omega⟩)
  try (refine mm tb ?_); repeat ((first | refine dFa tb ?_ | refine dLd tb ?_ | refine dLa tb ?_ | refine dLen tb ?_ | refine dFd tb ?_); try (refine mm tb ?_))
  refine GM.nil ?_
  have hr1 := hr.to hx1
  have hbx := hbx.to hx1
  have hk1 := hk.trans hx1.kp
  have hgg := hr.hg
  have hL0 := hL
  obtain ⟨f, hf⟩ : ∃ f, s.length - a = f := ⟨_, rfl⟩
  rw [hf] at hL
  first | refine G.condD rfl (fun hc => ?_) (fun hc => ?_) | refine G.condN rfl (fun hc => ?_) (fun hc => ?_) | refine G.cond rfl (fun hc => ?_) (fun hc => ?_)
  · have hcc : a < s.length ∧ 48 ≤ (s.getD a 0).toNat ∧ (s.getD a 0).toNat ≤ 57 ∧ (a = i ∨ s.getD i 0 ≠ 48) := by
      simp only [Bool.and_eq_true, Bool.or_eq_true, decide_eq_true_eq, Bool.not_eq_true', decide_eq_false_iff_not] at hc
      refine ⟨by omega, by omega, by omega, ?_⟩
      rcases hc.2 with h1 | h1
      · exact .inl (by omega)
      · right; intro e; rw [e] at h1; exact h1 rfl
    clear hc
    cases f with
    | zero => omega
    | succ f =>
    rw [Rx.countL, if_pos hcc] at hL
    try (first | refine gl tb ?_ | refine gg tb ?_ | refine ll tb ?_ | refine lg tb ?_); repeat ((first | refine G.condT rfl ?_ | refine G.condF rfl ?_ | refine sFa tb ?_ | refine sLd tb ?_ | refine sLa tb ?_ | refine sLen tb ?_ | refine sFd tb ?_ | refine sBd tb ?_ | refine sBa tb ?_); try (first | refine gl tb ?_ | refine gg tb ?_ | refine ll tb ?_ | refine lg tb ?_))
    refine G.regionM [(0, true), (1, true), (2, true), (3, true), (4, true), (5, true), (6, true), (7, true), (8, true), (9, true), (10, true), (11, true), (12, false), (13, true), (14, false), (15, true)] (Ext W1) (by kernel_rfl) (by kernel_rfl) rfl mixed (Ext.drew W1) rfl ?_
    have hx2 := Ext.drew W1
    try (refine mm tb ?_); repeat ((first | refine dFa tb ?_ | refine dLd tb ?_ | refine dLa tb ?_ | refine dLen tb ?_ | refine dFd tb ?_); try (refine mm tb ?_))
    refine dAd tb (r := ((10 * n : Nat) : Int)) ?_ (hp := by show IntKind.i64.wrap _ = _; rw [wrap_i64 (by omega) (by omega)]; omega)
    try (refine mm tb ?_); repeat ((first | refine dFa tb ?_ | refine dLd tb ?_ | refine dLa tb ?_ | refine dLen tb ?_ | refine dFd tb ?_); try (refine mm tb ?_))
    refine dBs tb a ?_ (hj := fun hc => ⟨rfl, hcc.1⟩)
    try (refine mm tb ?_); repeat ((first | refine dFa tb ?_ | refine dLd tb ?_ | refine dLa tb ?_ | refine dLen tb ?_ | refine dFd tb ?_); try (refine mm tb ?_))
    refine GM.read (fun w' hS => Step.arith (k := .u8) (a := (s.getD a 0).toNat) (r := ((s.getD a 0).toNat - 48 : Nat)) rfl (Op1.of rfl (by first | exact fun _ => rfl | exact fun h => h | exact fun h => bL h | exact fun h => bL (bL h) | exact fun h => bL (bL (bL h)))) (Op1.of rfl (by first | exact fun _ => rfl | exact fun h => h | exact fun h => bL h | exact fun h => bL (bL h) | exact fun h => bL (bL (bL h)))) (by show IntKind.u8.wrap _ = _; rw [wrap_u8 (by omega) (by omega)]; omega) rfl ⟨rfl, rfl⟩) rfl rfl ?_
    try (refine mm tb ?_); repeat ((first | refine dFa tb ?_ | refine dLd tb ?_ | refine dLa tb ?_ | refine dLen tb ?_ | refine dFd tb ?_); try (refine mm tb ?_))
    refine GM.eff (Step.convI tb rfl (Op1.of rfl (by first | exact fun _ => rfl | exact fun h => h | exact fun h => bL h | exact fun h => bL (bL h) | exact fun h => bL (bL (bL h)))) rfl rfl (wrap_i64 (by omega) (by omega)) rfl ⟨hx2, ?_⟩)
    try (refine mm tb ?_); repeat ((first | refine dFa tb ?_ | refine dLd tb ?_ | refine dLa tb ?_ | refine dLen tb ?_ | refine dFd tb ?_); try (refine mm tb ?_))
    refine dAd tb (r := ((10 * n + ((s.getD a 0).toNat - 48) : Nat) : Int)) ?_ (hp := by show IntKind.i64.wrap _ = _; rw [wrap_i64 (by omega) (by omega)]; omega)
    try (refine mm tb ?_); repeat ((first | refine dFa tb ?_ | refine dLd tb ?_ | refine dLa tb ?_ | refine dLen tb ?_ | refine dFd tb ?_); try (refine mm tb ?_))
    refine GM.eff (Step.min2 rfl (Op1.of rfl (by first | exact fun _ => rfl | exact fun h => h | exact fun h => bL h | exact fun h => bL (bL h) | exact fun h => bL (bL (bL h)))) (Op1.of rfl (by first | exact fun _ => rfl | exact fun h => h | exact fun h => bL h | exact fun h => bL (bL h) | exact fun h => bL (bL (bL h)))) rfl ⟨hx2, ?_⟩)
    try (refine mm tb ?_); repeat ((first | refine dFa tb ?_ | refine dLd tb ?_ | refine dLa tb ?_ | refine dLen tb ?_ | refine dFd tb ?_); try (refine mm tb ?_))
    refine GM.nil ?_
    have hmin : (if (101 : Int) < ((10 * n + ((s.getD a 0).toNat - 48) : Nat) : Int) then (101 : Int) else ((10 * n + ((s.getD a 0).toNat - 48) : Nat) : Int)) = ((min (10 * n + ((s.getD a 0).toNat - 48)) 101 : Nat) : Int) := by
      split <;> omega
    rw [hmin]
    have hr2 := hr1.to hx2
    have hbx := hbx.to hx2
    try (first | refine gl tb ?_ | refine gg tb ?_ | refine ll tb ?_ | refine lg tb ?_); repeat ((first | refine G.condT rfl ?_ | refine G.condF rfl ?_ | refine sFa tb ?_ | refine sLd tb ?_ | refine sLa tb ?_ | refine sLen tb ?_ | refine sFd tb ?_ | refine sBd tb ?_ | refine sBa tb ?_); try (first | refine gl tb ?_ | refine gg tb ?_ | refine ll tb ?_ | refine lg tb ?_))
    refine sAd tb ?_
    try (first | refine gl tb ?_ | refine gg tb ?_ | refine ll tb ?_ | refine lg tb ?_); repeat ((first | refine G.condT rfl ?_ | refine G.condF rfl ?_ | refine sFa tb ?_ | refine sLd tb ?_ | refine sLa tb ?_ | refine sLen tb ?_ | refine sFd tb ?_ | refine sBd tb ?_ | refine sBa tb ?_); try (first | refine gl tb ?_ | refine gg tb ?_ | refine ll tb ?_ | refine lg tb ?_))
    refine sSf tb (fun W3 hb3 hw3 => ?_)
    try (first | refine gl tb ?_ | refine gg tb ?_ | refine ll tb ?_ | refine lg tb ?_); repeat ((first | refine G.condT rfl ?_ | refine G.condF rfl ?_ | refine sFa tb ?_ | refine sLd tb ?_ | refine sLa tb ?_ | refine sLen tb ?_ | refine sFd tb ?_ | refine sBd tb ?_ | refine sBa tb ?_); try (first | refine gl tb ?_ | refine gg tb ?_ | refine ll tb ?_ | refine lg tb ?_))
    refine G.lp (x := (a, n)) (a + 1, min (10 * n + ((s.getD a 0).toNat - 48)) 101) (by repeat (first | exact Sub.nil _ | refine Sub.cons rfl ?_)) ⟨⟨?_, hr2.tabs.kp hw3.kp hr.hb, hr.hb, by simp only; omega, hr.hs, by simp only; omega⟩, (hk1.trans hx2.kp).trans hw3.kp, by simp only; omega, by simp only; omega, ?_⟩ (by simp only; omega)
    · simpa [rdC] using hb3
    · rw [show s.length - (a + 1) = f by omega]; exact hL
  · have hcc : ¬ (a < s.length ∧ 48 ≤ (s.getD a 0).toNat ∧ (s.getD a 0).toNat ≤ 57 ∧ (a = i ∨ s.getD i 0 ≠ 48)) := by
      rintro ⟨h1, h2, h3, h4⟩
      revert hc
      simp only [imp_false, Bool.not_eq_false, Bool.and_eq_true, Bool.or_eq_true, decide_eq_true_eq, Bool.not_eq_true', decide_eq_false_iff_not]
      refine ⟨⟨⟨h1, by omega⟩, by omega⟩, ?_⟩
      rcases h4 with h4 | h4
      · exact .inl (by omega)
      · right; intro e; exact h4 (UInt8.toNat_inj.1 (by show (s.getD i 0).toNat = 48; omega))
    have hE : Rx.countL s i (s.length - i) i 0 = (n, a) := by
      rw [← hL]
      cases f with
      | zero => rfl
      | succ f => rw [Rx.countL, if_neg hcc]
    clear hc
    try (first | refine gl tb ?_ | refine gg tb ?_ | refine ll tb ?_ | refine lg tb ?_); repeat ((first | refine G.condT rfl ?_ | refine G.condF rfl ?_ | refine sFa tb ?_ | refine sLd tb ?_ | refine sLa tb ?_ | refine sLen tb ?_ | refine sFd tb ?_ | refine sBd tb ?_ | refine sBa tb ?_); try (first | refine gl tb ?_ | refine gg tb ?_ | refine ll tb ?_ | refine lg tb ?_))
    first | refine G.condD rfl (fun hc => ?_) (fun hc => ?_) | refine G.condN rfl (fun hc => ?_) (fun hc => ?_) | refine G.cond rfl (fun hc => ?_) (fun hc => ?_)
    · have hai : a = i := by omega
      try (first | refine gl tb ?_ | refine gg tb ?_ | refine ll tb ?_ | refine lg tb ?_); repeat ((first | refine G.condT rfl ?_ | refine G.condF rfl ?_ | refine sFa tb ?_ | refine sLd tb ?_ | refine sLa tb ?_ | refine sLen tb ?_ | refine sFd tb ?_ | refine sBd tb ?_ | refine sBa tb ?_); try (first | refine gl tb ?_ | refine gg tb ?_ | refine ll tb ?_ | refine lg tb ?_))
      refine sCallP c56 (fail_ok rb a W1) (fun ch w' hz => px_P rfl rfl ?_) ?_
      · exact ⟨i, by simp only [Rx.count, hE, hai, if_true], hai ▸ hz.1, by rw [hz.2]; exact hk1⟩
      · rintro _ _ ⟨⟩
    · have hai : a ≠ i := by omega
      try (first | refine gl tb ?_ | refine gg tb ?_ | refine ll tb ?_ | refine lg tb ?_); repeat ((first | refine G.condT rfl ?_ | refine G.condF rfl ?_ | refine sFa tb ?_ | refine sLd tb ?_ | refine sLa tb ?_ | refine sLen tb ?_ | refine sFd tb ?_ | refine sBd tb ?_ | refine sBa tb ?_); try (first | refine gl tb ?_ | refine gg tb ?_ | refine ll tb ?_ | refine lg tb ?_))
      refine G.retP1 rfl rfl rfl rfl ?_
      exact ⟨n, a, by simp only [Rx.count, hE, if_neg hai], rfl, by omega, hn, hr1, hk1⟩
end Go.Proofs.YtbpkhgehchelhaaDoor
