/- regex: repeats in braces, escapes, walked. -/
import Derived.Test.YtbpkhgehchelhaaDoorRC
open Go Go.Vg Go.RowKit Go.Proofs Go.Proofs.YtbpkhgehchelhaaDoor
namespace Go.Proofs.YtbpkhgehchelhaaDoor
set_option linter.unusedSimpArgs false

/-- the reading was given up -/
def Bad {α : Type} (rb : Nat) (w : World) (R : Except Nat α) (ch : List PanicEntry) (w' : World) : Prop := ∃ e, R = .error e ∧ Wrong e ch ∧ Kp rb w w'
theorem Bad.mk {α : Type} {rb e : Nat} {w w1 w' : World} {R : Except Nat α} {ch : List PanicEntry} (hR : R = .error e) (hz : Wrong e ch ∧ w' = w1) (hk : Kp rb w w1) : Bad rb w R ch w' := ⟨e, hR, hz.1, by rw [hz.2]; exact hk⟩

set_option maxHeartbeats 1000000 in
theorem braces_ok (w : World) (rb : Nat) (s : List UInt8) (i g : Nat) (h : Rd w rb s i g) :
    RetP Tryd.prog 90 ⟨[ptr rb]⟩ w (fun r w' => ∃ mn mx a, Rx.braces s i = .ok ((mn, mx), a) ∧ r = .tuple ⟨[.int .i64 (mn : Nat), .int .i64 mx]⟩ ∧ i < a ∧ mn ≤ 100 ∧ -1 ≤ mx ∧ mx ≤ 100 ∧ Rd w' rb s a g ∧ Kp rb w w') (Bad rb w (Rx.braces s i)) := by
  refine ret_of_GP Tryd.func90 rfl Tryd.ntmps90 rfl ?_
  simp only [argEnv]
  try (first | refine gl tb ?_ | refine gg tb ?_ | refine ll tb ?_ | refine lg tb ?_); repeat ((first | refine G.condT rfl ?_ | refine G.condF rfl ?_ | refine sFa tb ?_ | refine sLd tb ?_ | refine sLa tb ?_ | refine sLen tb ?_ | refine sFd tb ?_ | refine sBd tb ?_ | refine sBa tb ?_); try (first | refine gl tb ?_ | refine gg tb ?_ | refine ll tb ?_ | refine lg tb ?_))
  refine sCallP c99 (count_ok w rb s i g h) (fun ch w' hz => px_P rfl rfl ?_) ?_
  · obtain ⟨e, he, hw, hk⟩ := hz
    exact ⟨e, by simp only [Rx.braces, he], hw, hk⟩
  rintro _ W ⟨n, a, hE, rfl, hia, hn, hr, hk⟩
  try (first | refine gl tb ?_ | refine gg tb ?_ | refine ll tb ?_ | refine lg tb ?_); repeat ((first | refine G.condT rfl ?_ | refine G.condF rfl ?_ | refine sFa tb ?_ | refine sLd tb ?_ | refine sLa tb ?_ | refine sLen tb ?_ | refine sFd tb ?_ | refine sBd tb ?_ | refine sBa tb ?_); try (first | refine gl tb ?_ | refine gg tb ?_ | refine ll tb ?_ | refine lg tb ?_))
  refine sCall c73 (takes_ok 44 W rb s a g hr) ?_
  rintro _ W2 ⟨rfl, hr2, hk2⟩
  have hk2 := hk.trans hk2
  try (first | refine gl tb ?_ | refine gg tb ?_ | refine ll tb ?_ | refine lg tb ?_); repeat ((first | refine G.condT rfl ?_ | refine G.condF rfl ?_ | refine sFa tb ?_ | refine sLd tb ?_ | refine sLa tb ?_ | refine sLen tb ?_ | refine sFd tb ?_ | refine sBd tb ?_ | refine sBa tb ?_); try (first | refine gl tb ?_ | refine gg tb ?_ | refine ll tb ?_ | refine lg tb ?_))
  refine G.join (fun p : Int × Nat => [(0, none, ptr rb), (2, none, .int .i64 (n : Nat)), (3, none, .int .i64 p.1)]) (fun p w' => Rx.most s n a = .ok p ∧ -1 ≤ p.1 ∧ p.1 ≤ 101 ∧ a ≤ p.2 ∧ Rd w' rb s p.2 g ∧ Kp rb w w') ?_ ?_
  · rintro ⟨mx, b⟩ W3 ⟨hM, hm0, hm1, hab, hr3, hk3⟩
    simp only at hm0 hm1 hab hr3 ⊢
    have hbx := hr3.bx
    unfold rdC at hbx
    have hR : Rx.braces s i = if Rx.isB s b 125 then (if 100 < max (n : Int) mx ∨ (0 ≤ mx ∧ mx < (n : Int)) then .error b else .ok ((n, mx), b + 1)) else .error b := by
      simp only [Rx.braces, hE, hM]
    rw [hR]
    try (first | refine gl tb ?_ | refine gg tb ?_ | refine ll tb ?_ | refine lg tb ?_); repeat ((first | refine G.condT rfl ?_ | refine G.condF rfl ?_ | refine sFa tb ?_ | refine sLd tb ?_ | refine sLa tb ?_ | refine sLen tb ?_ | refine sFd tb ?_ | refine sBd tb ?_ | refine sBa tb ?_); try (first | refine gl tb ?_ | refine gg tb ?_ | refine ll tb ?_ | refine lg tb ?_))
    refine sCall c73 (takes_ok 125 W3 rb s b g hr3) ?_
    rintro _ W4 ⟨rfl, hr4, hk4⟩
    have hk4 := hk3.trans hk4
    try (first | refine gl tb ?_ | refine gg tb ?_ | refine ll tb ?_ | refine lg tb ?_); repeat ((first | refine G.condT rfl ?_ | refine G.condF rfl ?_ | refine sFa tb ?_ | refine sLd tb ?_ | refine sLa tb ?_ | refine sLen tb ?_ | refine sFd tb ?_ | refine sBd tb ?_ | refine sBa tb ?_); try (first | refine gl tb ?_ | refine gg tb ?_ | refine ll tb ?_ | refine lg tb ?_))
    first | refine G.condD rfl (fun hc => ?_) (fun hc => ?_) | refine G.condN rfl (fun hc => ?_) (fun hc => ?_) | refine G.cond rfl (fun hc => ?_) (fun hc => ?_)
    · have hc : Rx.isB s b 125 = false := by simpa using hc
      rw [hc] at hr4 ⊢
      have hbx := hr4.bx
      unfold rdC at hbx
      simp only [Bool.false_eq_true, if_false] at hbx ⊢
      try (first | refine gl tb ?_ | refine gg tb ?_ | refine ll tb ?_ | refine lg tb ?_); repeat ((first | refine G.condT rfl ?_ | refine G.condF rfl ?_ | refine sFa tb ?_ | refine sLd tb ?_ | refine sLa tb ?_ | refine sLen tb ?_ | refine sFd tb ?_ | refine sBd tb ?_ | refine sBa tb ?_); try (first | refine gl tb ?_ | refine gg tb ?_ | refine ll tb ?_ | refine lg tb ?_))
      refine sCallP c56 (fail_ok rb b W4) (fun ch w' hz => px_P rfl rfl ?_) ?_
      · exact Bad.mk rfl hz hk4
      · rintro _ _ ⟨⟩
    · have hc : Rx.isB s b 125 = true := by simpa using hc
      rw [hc] at hr4 ⊢
      simp only [if_true] at hr4 ⊢
      have hbx := hr4.bx
      have hb4 := hr4.hi
      unfold rdC at hbx
      have hsz := hr4.hs
      try (first | refine gl tb ?_ | refine gg tb ?_ | refine ll tb ?_ | refine lg tb ?_); repeat ((first | refine G.condT rfl ?_ | refine G.condF rfl ?_ | refine sFa tb ?_ | refine sLd tb ?_ | refine sLa tb ?_ | refine sLen tb ?_ | refine sFd tb ?_ | refine sBd tb ?_ | refine sBa tb ?_); try (first | refine gl tb ?_ | refine gg tb ?_ | refine ll tb ?_ | refine lg tb ?_))
      refine GL.cons (Step.max2 rfl (Op1.of rfl (by first | exact fun _ => rfl | exact fun h => h | exact fun h => bL h | exact fun h => bL (bL h) | exact fun h => bL (bL (bL h)))) (Op1.of rfl (by first | exact fun _ => rfl | exact fun h => h | exact fun h => bL h | exact fun h => bL (bL h) | exact fun h => bL (bL (bL h)))) rfl ?_)
      have hmax : (if (n : Int) < mx then mx else (n : Int)) = max (n : Int) mx := by split <;> omega
      rw [hmax]
      try (first | refine gl tb ?_ | refine gg tb ?_ | refine ll tb ?_ | refine lg tb ?_); repeat ((first | refine G.condT rfl ?_ | refine G.condF rfl ?_ | refine sFa tb ?_ | refine sLd tb ?_ | refine sLa tb ?_ | refine sLen tb ?_ | refine sFd tb ?_ | refine sBd tb ?_ | refine sBa tb ?_); try (first | refine gl tb ?_ | refine gg tb ?_ | refine ll tb ?_ | refine lg tb ?_))
      first | refine G.condD rfl (fun hc => ?_) (fun hc => ?_) | refine G.condN rfl (fun hc => ?_) (fun hc => ?_) | refine G.cond rfl (fun hc => ?_) (fun hc => ?_)
      · have hcc : 100 < max (n : Int) mx ∨ (0 ≤ mx ∧ mx < (n : Int)) := by simpa using hc
        clear hc
        rw [if_pos hcc]
        try (first | refine gl tb ?_ | refine gg tb ?_ | refine ll tb ?_ | refine lg tb ?_); repeat ((first | refine G.condT rfl ?_ | refine G.condF rfl ?_ | refine sFa tb ?_ | refine sLd tb ?_ | refine sLa tb ?_ | refine sLen tb ?_ | refine sFd tb ?_ | refine sBd tb ?_ | refine sBa tb ?_); try (first | refine gl tb ?_ | refine gg tb ?_ | refine ll tb ?_ | refine lg tb ?_))
        refine sAd tb (r := (b : Nat)) ?_ (hp := by show IntKind.i64.wrap _ = _; rw [wrap_i64 (by omega) (by omega)]; omega)
        try (first | refine gl tb ?_ | refine gg tb ?_ | refine ll tb ?_ | refine lg tb ?_); repeat ((first | refine G.condT rfl ?_ | refine G.condF rfl ?_ | refine sFa tb ?_ | refine sLd tb ?_ | refine sLa tb ?_ | refine sLen tb ?_ | refine sFd tb ?_ | refine sBd tb ?_ | refine sBa tb ?_); try (first | refine gl tb ?_ | refine gg tb ?_ | refine ll tb ?_ | refine lg tb ?_))
        refine sCallP c56 (fail_ok rb b W4) (fun ch w' hz => px_P rfl rfl ?_) ?_
        · exact Bad.mk rfl hz hk4
        · rintro _ _ ⟨⟩
      · have hcc : ¬ (100 < max (n : Int) mx ∨ (0 ≤ mx ∧ mx < (n : Int))) := by
          intro h2
          revert hc
          simp only [imp_false, Bool.not_eq_false, Bool.or_eq_true, Bool.and_eq_true, decide_eq_true_eq]
          exact h2
        clear hc
        rw [if_neg hcc]
        try (first | refine gl tb ?_ | refine gg tb ?_ | refine ll tb ?_ | refine lg tb ?_); repeat ((first | refine G.condT rfl ?_ | refine G.condF rfl ?_ | refine sFa tb ?_ | refine sLd tb ?_ | refine sLa tb ?_ | refine sLen tb ?_ | refine sFd tb ?_ | refine sBd tb ?_ | refine sBa tb ?_); try (first | refine gl tb ?_ | refine gg tb ?_ | refine ll tb ?_ | refine lg tb ?_))
        refine G.retP2 rfl rfl rfl rfl rfl ?_
        exact ⟨n, mx, b + 1, rfl, rfl, by omega, by omega, hm0, by omega, hr4, hk4⟩
  · first | refine G.condD rfl (fun hc => ?_) (fun hc => ?_) | refine G.condN rfl (fun hc => ?_) (fun hc => ?_) | refine G.cond rfl (fun hc => ?_) (fun hc => ?_)
    · rw [hc] at hr2
      simp only [if_true] at hr2
      try (first | refine gl tb ?_ | refine gg tb ?_ | refine ll tb ?_ | refine lg tb ?_); repeat ((first | refine G.condT rfl ?_ | refine G.condF rfl ?_ | refine sFa tb ?_ | refine sLd tb ?_ | refine sLa tb ?_ | refine sLen tb ?_ | refine sFd tb ?_ | refine sBd tb ?_ | refine sBa tb ?_); try (first | refine gl tb ?_ | refine gg tb ?_ | refine ll tb ?_ | refine lg tb ?_))
      refine sCall c83 (is_ok 125 W2 rb s (a + 1) g hr2) ?_
      rintro _ W3 ⟨rfl, hx3⟩
      have hr3 := hr2.to hx3
      have hk3 := hk2.trans hx3.kp
      try (first | refine gl tb ?_ | refine gg tb ?_ | refine ll tb ?_ | refine lg tb ?_); repeat ((first | refine G.condT rfl ?_ | refine G.condF rfl ?_ | refine sFa tb ?_ | refine sLd tb ?_ | refine sLa tb ?_ | refine sLen tb ?_ | refine sFd tb ?_ | refine sBd tb ?_ | refine sBa tb ?_); try (first | refine gl tb ?_ | refine gg tb ?_ | refine ll tb ?_ | refine lg tb ?_))
      first | refine G.condD rfl (fun hc => ?_) (fun hc => ?_) | refine G.condN rfl (fun hc => ?_) (fun hc => ?_) | refine G.cond rfl (fun hc => ?_) (fun hc => ?_)
      · have hc2 : Rx.isB s (a + 1) 125 = false := by simpa using hc
        rename_i hc0
        have hc0 : Rx.isB s a 44 = true := by assumption
        try (first | refine gl tb ?_ | refine gg tb ?_ | refine ll tb ?_ | refine lg tb ?_); repeat ((first | refine G.condT rfl ?_ | refine G.condF rfl ?_ | refine sFa tb ?_ | refine sLd tb ?_ | refine sLa tb ?_ | refine sLen tb ?_ | refine sFd tb ?_ | refine sBd tb ?_ | refine sBa tb ?_); try (first | refine gl tb ?_ | refine gg tb ?_ | refine ll tb ?_ | refine lg tb ?_))
        refine sCallP c99 (count_ok W3 rb s (a + 1) g hr3) (fun ch w' hz => px_P rfl rfl ?_) ?_
        · obtain ⟨e, he, hw, hk⟩ := hz
          exact ⟨e, by simp only [Rx.braces, hE, Rx.most, hc0, hc2, he, if_true, Bool.false_eq_true, if_false], hw, hk3.trans hk⟩
        rintro _ W4 ⟨m, b, hE2, rfl, hab, hm, hr4, hk4⟩
        try (first | refine gl tb ?_ | refine gg tb ?_ | refine ll tb ?_ | refine lg tb ?_); repeat ((first | refine G.condT rfl ?_ | refine G.condF rfl ?_ | refine sFa tb ?_ | refine sLd tb ?_ | refine sLa tb ?_ | refine sLen tb ?_ | refine sFd tb ?_ | refine sBd tb ?_ | refine sBa tb ?_); try (first | refine gl tb ?_ | refine gg tb ?_ | refine ll tb ?_ | refine lg tb ?_))
        exact G.met ((m : Int), b) (by repeat (first | exact Sub.nil _ | refine Sub.cons rfl ?_)) ⟨by simp only [Rx.most, hc0, hc2, hE2, if_true, Bool.false_eq_true, if_false], by simp only; omega, by simp only; omega, by simp only; omega, hr4, hk3.trans hk4⟩
      · have hc2 : Rx.isB s (a + 1) 125 = true := by simpa using hc
        rename_i hc0
        have hc0 : Rx.isB s a 44 = true := by assumption
        try (first | refine gl tb ?_ | refine gg tb ?_ | refine ll tb ?_ | refine lg tb ?_); repeat ((first | refine G.condT rfl ?_ | refine G.condF rfl ?_ | refine sFa tb ?_ | refine sLd tb ?_ | refine sLa tb ?_ | refine sLen tb ?_ | refine sFd tb ?_ | refine sBd tb ?_ | refine sBa tb ?_); try (first | refine gl tb ?_ | refine gg tb ?_ | refine ll tb ?_ | refine lg tb ?_))
        exact G.met ((-1 : Int), a + 1) (by repeat (first | exact Sub.nil _ | refine Sub.cons rfl ?_)) ⟨by simp only [Rx.most, hc0, hc2, if_true], by simp only; omega, by simp only; omega, by simp only; omega, hr3, hk3⟩
    · rw [hc] at hr2
      simp only [Bool.false_eq_true, if_false] at hr2
      try (first | refine gl tb ?_ | refine gg tb ?_ | refine ll tb ?_ | refine lg tb ?_); repeat ((first | refine G.condT rfl ?_ | refine G.condF rfl ?_ | refine sFa tb ?_ | refine sLd tb ?_ | refine sLa tb ?_ | refine sLen tb ?_ | refine sFd tb ?_ | refine sBd tb ?_ | refine sBa tb ?_); try (first | refine gl tb ?_ | refine gg tb ?_ | refine ll tb ?_ | refine lg tb ?_))
      exact G.met ((n : Int), a) (by repeat (first | exact Sub.nil _ | refine Sub.cons rfl ?_)) ⟨by simp only [Rx.most, hc, Bool.false_eq_true, if_false], by simp only; omega, by simp only; omega, by simp only; omega, hr2, hk2⟩
end Go.Proofs.YtbpkhgehchelhaaDoor
