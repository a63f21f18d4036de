/- regex: the end of a range, walked. -/
import Derived.Test.YtbpkhgehchelhaaDoorRG
open Go Go.Vg Go.RowKit Go.Proofs Go.Proofs.YtbpkhgehchelhaaDoor
namespace Go.Proofs.YtbpkhgehchelhaaDoor
set_option linter.unusedSimpArgs false

set_option maxHeartbeats 1000000 in
theorem last_ok (w : World) (rb : Nat) (s : List UInt8) (i g frm : Nat) (h : Rd w rb s i g) :
    RetP Tryd.prog 101 ⟨[ptr rb, .int .i32 frm]⟩ w (fun r w' => ∃ x a, Rx.last s i frm = .ok (x, a) ∧ r = .int .i32 (x : Nat) ∧ i < a ∧ x ≤ 1114111 ∧ Rd w' rb s a g ∧ Kp rb w w') (Bad rb w (Rx.last s i frm)) := by
  have hbx := h.bx
  have hsz := h.hs
  have hi := h.hi
  unfold rdC at hbx
  refine ret_of_GP Tryd.func101 rfl Tryd.ntmps101 rfl ?_
  simp only [argEnv]
  try (first | refine gl tb ?_ | refine gg tb ?_ | refine ll tb ?_ | refine lg tb ?_); repeat ((first | refine G.condT rfl ?_ | refine G.condF rfl ?_ | refine sFa tb ?_ | refine sLd tb ?_ | refine sLa tb ?_ | refine sLen tb ?_ | refine sFd tb ?_ | refine sBd tb ?_ | refine sBa tb ?_); try (first | refine gl tb ?_ | refine gg tb ?_ | refine ll tb ?_ | refine lg tb ?_))
  refine G.regionM [(0, true), (1, false), (2, true), (3, true), (4, true), (5, true), (6, true), (7, true), (8, true), (9, true), (10, true), (11, true), (12, true), (13, true), (14, true), (15, true), (16, true), (17, true), (18, true), (19, true), (20, true), (21, true), (22, true), (23, true), (24, true), (25, true), (26, false), (27, false), (28, true)] (Ext w) (by kernel_rfl) (by kernel_rfl) rfl mixed (Ext.drew w) rfl ?_
  try (refine mm tb ?_); repeat ((first | refine dFa tb ?_ | refine dLd tb ?_ | refine dLa tb ?_ | refine dLen tb ?_ | refine dFd tb ?_); try (refine mm tb ?_))
  refine GM.eff (Step.callX rfl rfl (by repeat (first | exact OpL.nil | refine OpL.cons (Op1.of rfl (by first | exact fun _ => rfl | exact fun h => h | exact fun h => bL h | exact fun h => bL (bL h) | exact fun h => bL (bL (bL h)))) ?_)) c83 rfl (fun hc => is_ok 92 w.drew rb s i g (h.to (Ext.drew w))) ?_)
  intro W1 hx1
  have hx1 := (Ext.drew w).trans hx1
  refine ⟨hx1, ?_⟩
  try (refine mm tb ?_); repeat ((first | refine dFa tb ?_ | refine dLd tb ?_ | refine dLa tb ?_ | refine dLen tb ?_ | refine dFd tb ?_); try (refine mm tb ?_))
  refine dAd tb (r := ((i + 1 : Nat) : Int)) ?_
  try (refine mm tb ?_); repeat ((first | refine dFa tb ?_ | refine dLd tb ?_ | refine dLa tb ?_ | refine dLen tb ?_ | refine dFd tb ?_); try (refine mm tb ?_))
  refine dAd tb (r := ((i + 1 : Nat) : Int)) ?_
  try (refine mm tb ?_); repeat ((first | refine dFa tb ?_ | refine dLd tb ?_ | refine dLa tb ?_ | refine dLen tb ?_ | refine dFd tb ?_); try (refine mm tb ?_))
  refine dBs tb (i + 1) ?_ (hj := fun hc => ⟨rfl, by simp only [cv, Bool.and_eq_true, decide_eq_true_eq] at hc; omega⟩)
  try (refine mm tb ?_); repeat ((first | refine dFa tb ?_ | refine dLd tb ?_ | refine dLa tb ?_ | refine dLen tb ?_ | refine dFd tb ?_); try (refine mm tb ?_))
  have hb8 := (s.getD (i + 1) 0).toNat_lt
  refine GM.eff (Step.convI tb (m := ((s.getD (i + 1) 0).toNat : Nat)) rfl (Op1.of rfl (by first | exact fun _ => rfl | exact fun h => h | exact fun h => bL h | exact fun h => bL (bL h) | exact fun h => bL (bL (bL h)))) rfl rfl (wrap_i32 (by omega) (by omega)) rfl ⟨hx1, ?_⟩)
  refine GM.eff (Step.callX rfl rfl (by repeat (first | exact OpL.nil | refine OpL.cons (Op1.of rfl (by first | exact fun _ => rfl | exact fun h => h | exact fun h => bL h | exact fun h => bL (bL h) | exact fun h => bL (bL (bL h)))) ?_)) c98 rfl (fun hc => cr_ok [100, 68, 119, 87, 115, 83] (s.getD (i + 1) 0).toNat (by omega) (by decide) (by decide) W1) ?_)
  intro W2 hx2
  have hx2 := hx1.trans hx2
  refine ⟨hx2, ?_⟩
  have hmk : (([100, 68, 119, 87, 115, 83] : List UInt8).map (·.toNat)) = [100, 68, 119, 87, 115, 83] := by decide
  rw [hmk]
  try (refine mm tb ?_); repeat ((first | refine dFa tb ?_ | refine dLd tb ?_ | refine dLa tb ?_ | refine dLen tb ?_ | refine dFd tb ?_); try (refine mm tb ?_))
  refine GM.nil ?_
  have hr2 := h.to hx2
  have hbx := hr2.bx
  unfold rdC at hbx
  first | refine G.condD rfl (fun hc => ?_) (fun hc => ?_) | refine G.condN rfl (fun hc => ?_) (fun hc => ?_) | refine G.cond rfl (fun hc => ?_) (fun hc => ?_)
  · have hcc : Rx.isB s i 92 = true ∧ i + 1 < s.length ∧ ([100, 68, 119, 87, 115, 83] : List Nat).contains (s.getD (i + 1) 0).toNat = true := by
      simp only [Bool.and_eq_true, decide_eq_true_eq] at hc
      exact ⟨hc.1.1, by omega, hc.2⟩
    have hO : Rx.last s i frm = .error (i + 1) := by unfold Rx.last; rw [if_pos hcc]
    clear hc
    try (first | refine gl tb ?_ | refine gg tb ?_ | refine ll tb ?_ | refine lg tb ?_); repeat ((first | refine G.condT rfl ?_ | refine G.condF rfl ?_ | refine sFa tb ?_ | refine sLd tb ?_ | refine sLa tb ?_ | refine sLen tb ?_ | refine sFd tb ?_ | refine sBd tb ?_ | refine sBa tb ?_); try (first | refine gl tb ?_ | refine gg tb ?_ | refine ll tb ?_ | refine lg tb ?_))
    refine sAd tb (r := ((i + 1 : Nat) : Int)) ?_
    try (first | refine gl tb ?_ | refine gg tb ?_ | refine ll tb ?_ | refine lg tb ?_); repeat ((first | refine G.condT rfl ?_ | refine G.condF rfl ?_ | refine sFa tb ?_ | refine sLd tb ?_ | refine sLa tb ?_ | refine sLen tb ?_ | refine sFd tb ?_ | refine sBd tb ?_ | refine sBa tb ?_); try (first | refine gl tb ?_ | refine gg tb ?_ | refine ll tb ?_ | refine lg tb ?_))
    refine sCallP c56 (fail_ok rb (i + 1) W2) (fun ch w' hz => px_P rfl rfl ?_) ?_
    · exact Bad.mk hO hz hx2.kp
    · rintro _ _ ⟨⟩
  · have hcc : ¬ (Rx.isB s i 92 = true ∧ i + 1 < s.length ∧ ([100, 68, 119, 87, 115, 83] : List Nat).contains (s.getD (i + 1) 0).toNat = true) := by
      rintro ⟨h1, h2, h3⟩
      rw [h1, h3] at hc
      simp only [Bool.true_and, Bool.and_true, decide_eq_false_iff_not] at hc
      omega
    have hOe : ∀ e, Rx.one s i = .error e → Rx.last s i frm = .error e := fun e he => by unfold Rx.last; rw [if_neg hcc, he]
    have hOk : ∀ l sg a, Rx.one s i = .ok ((l, sg), a) → Rx.last s i frm = if Rx.lo l < frm then .error (a - 1) else .ok (Rx.lo l, a) := fun l sg a he => by unfold Rx.last; rw [if_neg hcc, he]
    clear hc
    try (first | refine gl tb ?_ | refine gg tb ?_ | refine ll tb ?_ | refine lg tb ?_); repeat ((first | refine G.condT rfl ?_ | refine G.condF rfl ?_ | refine sFa tb ?_ | refine sLd tb ?_ | refine sLa tb ?_ | refine sLen tb ?_ | refine sFd tb ?_ | refine sBd tb ?_ | refine sBa tb ?_); try (first | refine gl tb ?_ | refine gg tb ?_ | refine ll tb ?_ | refine lg tb ?_))
    refine sCallP c100 (one_ok W2 rb s i g hr2) (fun ch w' hz => px_P rfl rfl ?_) ?_
    · obtain ⟨e, he, hw, hk⟩ := hz
      exact ⟨e, hOe e he, hw, hx2.kp.trans hk⟩
    rintro _ W3 ⟨l, sg, a, v, hE, rfl, hia, hv, hl0, hl1, hsm, hr3, hk3⟩
    have hO := hOk _ _ _ hE
    have hk3 := hx2.kp.trans hk3
    have hvs := hv.sli
    have hbx := hr3.bx
    unfold rdC at hbx
    have hsz3 := hr3.hs
    have ha3 := hr3.hi
    obtain ⟨x, r, rfl⟩ : ∃ x r, l = x :: r := by cases l with
      | nil => simp at hl0
      | cons x r => exact ⟨x, r, rfl⟩
    have hlo : Rx.lo (x :: r) = x.1 := rfl
    rw [hlo] at hO
    have hget : ((x :: r).map spanC)[0]? = some (spanC x) := rfl
    try (first | refine gl tb ?_ | refine gg tb ?_ | refine ll tb ?_ | refine lg tb ?_); repeat ((first | refine G.condT rfl ?_ | refine G.condF rfl ?_ | refine sFa tb ?_ | refine sLd tb ?_ | refine sLa tb ?_ | refine sLen tb ?_ | refine sFd tb ?_ | refine sBd tb ?_ | refine sIa tb 0 ?_); try (first | refine gl tb ?_ | refine gg tb ?_ | refine ll tb ?_ | refine lg tb ?_))
    first | refine G.condD rfl (fun hc => ?_) (fun hc => ?_) | refine G.condN rfl (fun hc => ?_) (fun hc => ?_) | refine G.cond rfl (fun hc => ?_) (fun hc => ?_)
    · have hlt : x.1 < frm := by omega
      rw [if_pos hlt] at hO
      try (first | refine gl tb ?_ | refine gg tb ?_ | refine ll tb ?_ | refine lg tb ?_); repeat ((first | refine G.condT rfl ?_ | refine G.condF rfl ?_ | refine sFa tb ?_ | refine sLd tb ?_ | refine sLa tb ?_ | refine sLen tb ?_ | refine sFd tb ?_ | refine sBd tb ?_ | refine sBa tb ?_); try (first | refine gl tb ?_ | refine gg tb ?_ | refine ll tb ?_ | refine lg tb ?_))
      refine sAd tb (r := ((a - 1 : Nat) : Int)) ?_ (hp := by show IntKind.i64.wrap _ = _; rw [wrap_i64 (by omega) (by omega)]; omega)
      try (first | refine gl tb ?_ | refine gg tb ?_ | refine ll tb ?_ | refine lg tb ?_); repeat ((first | refine G.condT rfl ?_ | refine G.condF rfl ?_ | refine sFa tb ?_ | refine sLd tb ?_ | refine sLa tb ?_ | refine sLen tb ?_ | refine sFd tb ?_ | refine sBd tb ?_ | refine sBa tb ?_); try (first | refine gl tb ?_ | refine gg tb ?_ | refine ll tb ?_ | refine lg tb ?_))
      refine sCallP c56 (fail_ok rb (a - 1) W3) (fun ch w' hz => px_P rfl rfl ?_) ?_
      · exact Bad.mk hO hz hk3
      · rintro _ _ ⟨⟩
    · have hlt : ¬ x.1 < frm := by omega
      rw [if_neg hlt] at hO
      try (first | refine gl tb ?_ | refine gg tb ?_ | refine ll tb ?_ | refine lg tb ?_); repeat ((first | refine G.condT rfl ?_ | refine G.condF rfl ?_ | refine sFa tb ?_ | refine sLd tb ?_ | refine sLa tb ?_ | refine sLen tb ?_ | refine sFd tb ?_ | refine sBd tb ?_ | refine sIa tb 0 ?_); try (first | refine gl tb ?_ | refine gg tb ?_ | refine ll tb ?_ | refine lg tb ?_))
      refine G.retP1 rfl rfl rfl rfl ?_
      exact ⟨x.1, a, hO, rfl, hia, (hsm x (by simp)).1, hr3, hk3⟩
end Go.Proofs.YtbpkhgehchelhaaDoor
