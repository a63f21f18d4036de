/- regex: a character or an escape of a class, the end of a range, walked. -/
import Derived.Test.YtbpkhgehchelhaaDoorRF
open Go Go.Vg Go.RowKit Go.Proofs Go.Proofs.YtbpkhgehchelhaaDoor
namespace Go.Proofs.YtbpkhgehchelhaaDoor
set_option linter.unusedSimpArgs false

theorem othersL_len : ∀ (l : List (Nat × Nat)) (f : Nat) (out : List (Nat × Nat)), 0 < (Rx.othersL l f out).length ∧ (Rx.othersL l f out).length ≤ out.length + l.length + 1
  | [], f, out => by simp [Rx.othersL]
  | x :: l, f, out => by
    have := othersL_len l (x.2 + 1) (if f < x.1 then out ++ [(f, x.1 - 1)] else out)
    simp only [Rx.othersL, List.length_cons]
    split at this
    · rename_i hc
      simp only [List.length_append, List.length_cons, List.length_nil, if_pos hc] at this ⊢; omega
    · rename_i hc
      rw [if_neg hc]; omega

theorem othersL_small : ∀ (l : List (Nat × Nat)) (f : Nat) (out : List (Nat × Nat)), Small l → f ≤ 1114112 → Small out → (∀ x ∈ l, x.1 ≤ 1114111) → l.length = 0 ∧ f ≤ 1114111 ∨ 0 < l.length ∧ (∀ x ∈ l, x.2 + 1 ≤ 1114111) → Small (Rx.othersL l f out)
  | [], f, out, _, _, ho, _, hf => by
    intro x hx
    simp only [Rx.othersL, List.mem_append, List.mem_singleton] at hx
    rcases hx with hx | rfl
    · exact ho x hx
    · rcases hf with hf | hf
      · exact ⟨hf.2, Nat.le_refl _⟩
      · simp at hf
  | x :: l, f, out, hl, hf, ho, h1, h2 => by
    have hx2 : x.2 + 1 ≤ 1114111 := by
      rcases h2 with h2 | h2
      · simp at h2
      · exact h2.2 x (by simp)
    have hx1 := h1 x (by simp)
    refine othersL_small l (x.2 + 1) _ (fun y hy => hl y (by simp [hy])) (by omega) ?_ (fun y hy => h1 y (by simp [hy])) ?_
    · split
      · intro y hy
        rw [List.mem_append, List.mem_singleton] at hy
        rcases hy with hy | rfl
        · exact ho y hy
        · exact ⟨by simp only; omega, by simp only; omega⟩
      · exact ho
    · rcases Nat.eq_zero_or_pos l.length with h0 | h0
      · exact .inl ⟨h0, hx2⟩
      · refine .inr ⟨h0, fun y hy => ?_⟩
        rcases h2 with h2 | h2
        · simp at h2
        · exact h2.2 y (by simp [hy])
/-- of the classes of an escape -/
theorem esc_below {c : Nat} {l : List (Nat × Nat)} (h : Rx.esc c = some (l, true)) : ∀ x ∈ l, x.2 + 1 ≤ 1114111 := by
  unfold Rx.esc at h
  repeat' split at h
  all_goals (simp only [Option.some.injEq, Prod.mk.injEq, reduceCtorEq, and_false] at h; try (obtain ⟨rfl, _⟩ := h; simp))
theorem escape_below {s : List UInt8} {i a : Nat} {l : List (Nat × Nat)} (h : Rx.escape s i = .ok ((l, true), a)) : ∀ x ∈ l, x.2 + 1 ≤ 1114111 := by
  unfold Rx.escape at h
  split at h
  · split at h
    · rename_i r hr
      simp only [Except.ok.injEq, Prod.mk.injEq] at h
      obtain ⟨rfl, _⟩ := h
      exact esc_below hr
    · cases h
  · cases h
theorem others_small {l : List (Nat × Nat)} (hl : Small l) (h0 : 0 < l.length) (h : ∀ x ∈ l, x.2 + 1 ≤ 1114111) : Small (Rx.others l) :=
  othersL_small l 0 [] hl (by omega) (fun _ h => by simp at h) (fun x hx => (hl x hx).1) (.inr ⟨h0, h⟩)

set_option maxHeartbeats 1000000 in
theorem one_ok (w : World) (rb : Nat) (s : List UInt8) (i g : Nat) (h : Rd w rb s i g) :
    RetP Tryd.prog 100 ⟨[ptr rb]⟩ w (fun r w' => ∃ l sg a v, Rx.one s i = .ok ((l, sg), a) ∧ r = .tuple ⟨[v, .bool sg]⟩ ∧ i < a ∧ Sp w' w.heap.size v l ∧ 0 < l.length ∧ l.length ≤ 11 ∧ Small l ∧ Rd w' rb s a g ∧ Kp rb w w') (Bad rb w (Rx.one s i)) := by
  refine ret_of_GP Tryd.func100 rfl Tryd.ntmps100 rfl ?_
  simp only [argEnv]
  try (first | refine gl tb ?_ | refine gg tb ?_ | refine ll tb ?_ | refine lg tb ?_); repeat ((first | refine G.condT rfl ?_ | refine G.condF rfl ?_ | refine sFa tb ?_ | refine sLd tb ?_ | refine sLa tb ?_ | refine sLen tb ?_ | refine sFd tb ?_ | refine sBd tb ?_ | refine sBa tb ?_); try (first | refine gl tb ?_ | refine gg tb ?_ | refine ll tb ?_ | refine lg tb ?_))
  refine sCall c73 (takes_ok 92 w rb s i g h) ?_
  rintro _ W ⟨rfl, hr, hk⟩
  try (first | refine gl tb ?_ | refine gg tb ?_ | refine ll tb ?_ | refine lg tb ?_); repeat ((first | refine G.condT rfl ?_ | refine G.condF rfl ?_ | refine sFa tb ?_ | refine sLd tb ?_ | refine sLa tb ?_ | refine sLen tb ?_ | refine sFd tb ?_ | refine sBd tb ?_ | refine sBa tb ?_); try (first | refine gl tb ?_ | refine gg tb ?_ | refine ll tb ?_ | refine lg tb ?_))
  first | refine G.condD rfl (fun hc => ?_) (fun hc => ?_) | refine G.condN rfl (fun hc => ?_) (fun hc => ?_) | refine G.cond rfl (fun hc => ?_) (fun hc => ?_)
  · rw [hc] at hr
    simp only [if_true] at hr
    have hO1 : ∀ e, Rx.escape s (i + 1) = .error e → Rx.one s i = .error e := fun e he => by simp only [Rx.one, hc, if_true, he]
    have hO2 : ∀ l neg a, Rx.escape s (i + 1) = .ok ((l, neg), a) → Rx.one s i = if neg then .ok ((Rx.others l, false), a) else .ok ((l, !([100, 119, 115] : List Nat).contains (s.getD (i + 1) 0).toNat), a) := fun l neg a he => by simp only [Rx.one, hc, if_true, he]
    have hbx := hr.bx
    unfold rdC at hbx
    try (first | refine gl tb ?_ | refine gg tb ?_ | refine ll tb ?_ | refine lg tb ?_); repeat ((first | refine G.condT rfl ?_ | refine G.condF rfl ?_ | refine sFa tb ?_ | refine sLd tb ?_ | refine sLa tb ?_ | refine sLen tb ?_ | refine sFd tb ?_ | refine sBd tb ?_ | refine sBa tb ?_); try (first | refine gl tb ?_ | refine gg tb ?_ | refine ll tb ?_ | refine lg tb ?_))
    refine sCallP c97 (escape_ok W rb s (i + 1) g hr) (fun ch w' hz => px_P rfl rfl ?_) ?_
    · obtain ⟨e, he, hw, hk2⟩ := hz
      exact ⟨e, hO1 e he, hw, hk.trans hk2⟩
    rintro _ W2 ⟨l, neg, a, v, hE, rfl, hlt, hia, hv, hne, hll, hsm, hr2, hk2⟩
    have hO := hO2 _ _ _ hE
    have hk2 := hk.trans hk2
    have hbx := hr2.bx
    unfold rdC at hbx
    have hl0 : 0 < l.length := List.length_pos_iff.2 hne
    try (first | refine gl tb ?_ | refine gg tb ?_ | refine ll tb ?_ | refine lg tb ?_); repeat ((first | refine G.condT rfl ?_ | refine G.condF rfl ?_ | refine sFa tb ?_ | refine sLd tb ?_ | refine sLa tb ?_ | refine sLen tb ?_ | refine sFd tb ?_ | refine sBd tb ?_ | refine sBa tb ?_); try (first | refine gl tb ?_ | refine gg tb ?_ | refine ll tb ?_ | refine lg tb ?_))
    first | refine G.condD rfl (fun hc => ?_) (fun hc => ?_) | refine G.condN rfl (fun hc => ?_) (fun hc => ?_) | refine G.cond rfl (fun hc => ?_) (fun hc => ?_)
    · subst hc
      try (first | refine gl tb ?_ | refine gg tb ?_ | refine ll tb ?_ | refine lg tb ?_); repeat ((first | refine G.condT rfl ?_ | refine G.condF rfl ?_ | refine sFa tb ?_ | refine sLd tb ?_ | refine sLa tb ?_ | refine sLen tb ?_ | refine sFd tb ?_ | refine sBd tb ?_ | refine sBa tb ?_); try (first | refine gl tb ?_ | refine gg tb ?_ | refine ll tb ?_ | refine lg tb ?_))
      refine sCall c103 (others_ok W2 _ v l hv hll hsm) ?_
      rintro v3 W3 ⟨hv3, hx3⟩
      try (first | refine gl tb ?_ | refine gg tb ?_ | refine ll tb ?_ | refine lg tb ?_); repeat ((first | refine G.condT rfl ?_ | refine G.condF rfl ?_ | refine sFa tb ?_ | refine sLd tb ?_ | refine sLa tb ?_ | refine sLen tb ?_ | refine sFd tb ?_ | refine sBd tb ?_ | refine sBa tb ?_); try (first | refine gl tb ?_ | refine gg tb ?_ | refine ll tb ?_ | refine lg tb ?_))
      refine G.retP2 rfl rfl rfl rfl rfl ?_
      have := othersL_len l 0 []
      exact ⟨Rx.others l, false, a, v3, hO, rfl, by omega, hv3.mono hk2.size, this.1, by unfold Rx.others; simp only [List.length_nil] at this; omega, others_small hsm hl0 (escape_below hE), hr2.to hx3, hk2.trans hx3.kp⟩
    · subst hc
      have hb8 := (s.getD (i + 1) 0).toNat_lt
      have hsz := hr2.hs
      try (first | refine gl tb ?_ | refine gg tb ?_ | refine ll tb ?_ | refine lg tb ?_); repeat ((first | refine G.condT rfl ?_ | refine G.condF rfl ?_ | refine sFa tb ?_ | refine sLd tb ?_ | refine sLa tb ?_ | refine sLen tb ?_ | refine sFd tb ?_ | refine sBd tb ?_ | refine sBa tb ?_); try (first | refine gl tb ?_ | refine gg tb ?_ | refine ll tb ?_ | refine lg tb ?_))
      refine sBs tb (i + 1) ?_ (hj := fun hc => ⟨rfl, hlt⟩)
      try (first | refine gl tb ?_ | refine gg tb ?_ | refine ll tb ?_ | refine lg tb ?_); repeat ((first | refine G.condT rfl ?_ | refine G.condF rfl ?_ | refine sFa tb ?_ | refine sLd tb ?_ | refine sLa tb ?_ | refine sLen tb ?_ | refine sFd tb ?_ | refine sBd tb ?_ | refine sBa tb ?_); try (first | refine gl tb ?_ | refine gg tb ?_ | refine ll tb ?_ | refine lg tb ?_))
      refine sCv tb ?_ (m := ((s.getD (i + 1) 0).toNat : Nat)) (hr := wrap_i32 (by omega) (by omega))
      try (first | refine gl tb ?_ | refine gg tb ?_ | refine ll tb ?_ | refine lg tb ?_); repeat ((first | refine G.condT rfl ?_ | refine G.condF rfl ?_ | refine sFa tb ?_ | refine sLd tb ?_ | refine sLa tb ?_ | refine sLen tb ?_ | refine sFd tb ?_ | refine sBd tb ?_ | refine sBa tb ?_); try (first | refine gl tb ?_ | refine gg tb ?_ | refine ll tb ?_ | refine lg tb ?_))
      refine sCall c98 (cr_ok [100, 119, 115] (s.getD (i + 1) 0).toNat (by omega) (by decide) (by decide) W2) ?_
      rintro _ W3 ⟨rfl, hx3⟩
      have hmk : (([100, 119, 115] : List UInt8).map (·.toNat)) = [100, 119, 115] := by decide
      rw [hmk]
      try (first | refine gl tb ?_ | refine gg tb ?_ | refine ll tb ?_ | refine lg tb ?_); repeat ((first | refine G.condT rfl ?_ | refine G.condF rfl ?_ | refine sFa tb ?_ | refine sLd tb ?_ | refine sLa tb ?_ | refine sLen tb ?_ | refine sFd tb ?_ | refine sBd tb ?_ | refine sBa tb ?_); try (first | refine gl tb ?_ | refine gg tb ?_ | refine ll tb ?_ | refine lg tb ?_))
      refine G.retP2 rfl rfl rfl rfl rfl ?_
      exact ⟨l, _, a, v, hO, rfl, by omega, (hv.to hx3).mono hk.size, hl0, by omega, hsm, hr2.to hx3, hk2.trans hx3.kp⟩
  · rw [hc] at hr
    simp only [Bool.false_eq_true, if_false] at hr
    have hO : Rx.one s i = if i < s.length then .ok (([((Rx.dec s i).1, (Rx.dec s i).1)], true), i + (Rx.dec s i).2) else .error i := by simp only [Rx.one, hc, Bool.false_eq_true, if_false]
    try (first | refine gl tb ?_ | refine gg tb ?_ | refine ll tb ?_ | refine lg tb ?_); repeat ((first | refine G.condT rfl ?_ | refine G.condF rfl ?_ | refine sFa tb ?_ | refine sLd tb ?_ | refine sLa tb ?_ | refine sLen tb ?_ | refine sFd tb ?_ | refine sBd tb ?_ | refine sBa tb ?_); try (first | refine gl tb ?_ | refine gg tb ?_ | refine ll tb ?_ | refine lg tb ?_))
    refine sCallP c94 (char_ok W rb s i g hr) (fun ch w' hz => px_P rfl rfl ?_) ?_
    · exact ⟨i, by rw [hO, if_neg hz.1], hz.2.1, hk.trans hz.2.2⟩
    rintro _ W2 ⟨hlt, rfl, hr2, hk2⟩
    rw [if_pos hlt] at hO
    have hp := Rx.dec_pos s i
    try (first | refine gl tb ?_ | refine gg tb ?_ | refine ll tb ?_ | refine lg tb ?_); repeat ((first | refine G.condT rfl ?_ | refine G.condF rfl ?_ | refine sFa tb ?_ | refine sLd tb ?_ | refine sLa tb ?_ | refine sLen tb ?_ | refine sFd tb ?_ | refine sBd tb ?_ | refine sBa tb ?_); try (first | refine gl tb ?_ | refine gg tb ?_ | refine ll tb ?_ | refine lg tb ?_))
    refine sBs' tb ([spanC ((Rx.dec s i).1, (Rx.dec s i).1)]) (fun v W3 ho hsz hx3 => ?_) (hkl := by simp [spanC])
    try (first | refine gl tb ?_ | refine gg tb ?_ | refine ll tb ?_ | refine lg tb ?_); repeat ((first | refine G.condT rfl ?_ | refine G.condF rfl ?_ | refine sFa tb ?_ | refine sLd tb ?_ | refine sLa tb ?_ | refine sLen tb ?_ | refine sFd tb ?_ | refine sBd tb ?_ | refine sBa tb ?_); try (first | refine gl tb ?_ | refine gg tb ?_ | refine ll tb ?_ | refine lg tb ?_))
    refine G.retP2 rfl rfl rfl rfl rfl ?_
    exact ⟨_, true, _, v, hO, rfl, by omega, ho.mono (hk.trans hk2).size, by simp, by simp, by have := Rx.dec_max s i; simp [Small]; exact this, hr2.to hx3, (hk.trans hk2).trans hx3.kp⟩

end Go.Proofs.YtbpkhgehchelhaaDoor
