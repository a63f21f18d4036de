/- regex: the steps of a repeat, walked. -/
import Derived.Test.YtbpkhgehchelhaaDoorRP
open Go Go.Vg Go.RowKit Go.Proofs Go.Proofs.YtbpkhgehchelhaaDoor
namespace Go.Proofs.YtbpkhgehchelhaaDoor
set_option linter.unusedSimpArgs false

theorem loopN_end {f : Rx.Mk → Rx.Mk} {mn n k : Nat} {was : Int} {m : Rx.Mk} (h : ¬ (k < mn ∧ ¬ m.full = true ∧ was < (m.st.length : Int))) : Rx.loopN f mn n k was m = m := by
  cases n with
  | zero => rfl
  | succ n => rw [Rx.loopN, if_neg h]

/-- a maker in memory beside a row of places that are no more than its steps -/
structure MkF (P Q : Nat → Prop) (w0 w : World) (mb : Nat) (m : Rx.Mk) (fv : Value) (fl : List Nat) : Prop where
  ms : MkS P Q w0 w mb m
  row : Owns w (mb + 1) fv 3 1 (fl.map fun (i : Nat) => [Value.int .i64 i])
  np : ∀ g, fv.ownBlock = some g → ¬ P g
  ne : ∀ v fu, Bx w mb [v, fu] → ∀ g, fv.ownBlock = some g → v.ownBlock ≠ some g
theorem MkF.nil {P Q : Nat → Prop} {w0 w : World} {mb : Nat} {m : Rx.Mk} (h : MkS P Q w0 w mb m) : MkF P Q w0 w mb m nilV [] :=
  ⟨h, Owns.nil _ _ _ _, fun g hg => by simp [Value.ownBlock] at hg, fun _ _ _ g hg => by simp [Value.ownBlock] at hg⟩
/-- what is kept beside the row -/
def PF (P : Nat → Prop) (fv : Value) (g : Nat) : Prop := P g ∨ fv.ownBlock = some g
theorem MkF.lift {P Q : Nat → Prop} {w0 w : World} {mb : Nat} {m : Rx.Mk} {fv : Value} {fl : List Nat} (h : MkF P Q w0 w mb m fv fl) : MkS (PF P fv) Q w w mb m := by
  obtain ⟨v, ps, hbx, hst⟩ := h.ms.ex
  refine ⟨Kq.refl _ _, ?_, fun g hq => .inl (h.ms.sub g hq), ?_, ⟨v, ps, hbx, hst.ow, hst.len, ?_, ?_⟩, h.ms.le⟩
  · rintro g (hp | hp)
    · exact Nat.lt_of_lt_of_le (h.ms.pl g hp) h.ms.kq.size
    · exact (h.row.lt g hp).2
  · rintro (hp | hp)
    · exact h.ms.np hp
    · have := (h.row.lt mb hp).1; omega
  · intro i k p hk hp
    rcases hst.tr i k p hk hp with ⟨e, ht⟩ | e
    · exact .inl ⟨e, ht.same fun g hg hpg => ⟨h.ms.kt.same g hg hpg, hpg⟩⟩
    · exact .inr e
  · intro g hg
    rintro (hp | hp)
    · exact hst.np g hg hp
    · exact h.ne v _ hbx g hp hg
theorem MkF.tr {P Q : Nat → Prop} {w0 w : World} {mb : Nat} {m : Rx.Mk} {fv : Value} {fl : List Nat} (h : MkF P Q w0 w mb m fv fl) {t : Rx.T} {u : Value} (ht : Tr w0 Q t u) : Tr w Q t u :=
  ht.same fun g hg hpg => ⟨h.ms.kt.same g hg hpg, hpg⟩
theorem MkF.back {P Q : Nat → Prop} {w0 w w' : World} {mb : Nat} {m m' : Rx.Mk} {fv : Value} {fl : List Nat} (h : MkF P Q w0 w mb m fv fl) (k : MkS (PF P fv) Q w w' mb m') : MkF P Q w0 w' mb m' fv fl := by
  have hq : Kq P w0 w' := h.ms.kq.trans (k.kq.mono fun g _ hp => .inl hp)
  obtain ⟨v, ps, hbx, hst⟩ := k.ex
  refine ⟨⟨hq, h.ms.pl, h.ms.sub, h.ms.np, ⟨v, ps, hbx, hst.ow, hst.len, ?_, fun g hg hp => hst.np g hg (.inl hp)⟩, k.le⟩, h.row.same fun g hg e => k.kq.same g hg (.inr e), h.np, fun v' fu hb g hg hv => ?_⟩
  · intro i kk p hk hp
    rcases hst.tr i kk p hk hp with ⟨e, ht⟩ | e
    · exact .inl ⟨e, ht.same fun g _ hpg => ⟨(h.ms.kt.same g (h.ms.pl g (h.ms.sub g hpg)) hpg).symm, hpg⟩⟩
    · exact .inr e
  · have e := List.head_eq_of_cons_eq (Bx.uniq hb hbx)
    rw [e] at hv
    exact hst.np g hv (.inr hg)

theorem MkS.to {P Q : Nat → Prop} {w0 w w' : World} {mb : Nat} {m : Rx.Mk} (h : MkS P Q w0 w mb m) (hx : Ext w w') : MkS P Q w0 w' mb m := by
  obtain ⟨v, ps, hbx, hst⟩ := h.ex
  exact ⟨h.kq.trans hx.kq, h.pl, h.sub, h.np, ⟨v, ps, hbx.to hx, hst.same fun g hg _ => hx.block g hg⟩, h.le⟩
theorem MkF.to {P Q : Nat → Prop} {w0 w w' : World} {mb : Nat} {m : Rx.Mk} {fv : Value} {fl : List Nat} (h : MkF P Q w0 w mb m fv fl) (hx : Ext w w') : MkF P Q w0 w' mb m fv fl :=
  h.back (h.lift.to hx)
theorem MkF.app {P Q : Nat → Prop} {w0 w w' : World} {mb : Nat} {m : Rx.Mk} {fv fv' : Value} {fl : List Nat} {i : Nat} (h : MkF P Q w0 w mb m fv fl) (hr : Owns w' (mb + 1) fv' 3 1 ((fl.map fun (i : Nat) => [Value.int .i64 i]) ++ [[.int .i64 i]]))
    (hg : Grew (mb + 1) fv w w') (ho : Own2 w fv fv') : MkF P Q w0 w' mb m fv' (fl ++ [i]) := by
  obtain ⟨v, ps, hbx, hst⟩ := h.ms.ex
  have hsz := h.ms.kq.size
  have hb' := hbx.grew hg (fun e => by have := (h.row.lt mb e.symm).1; omega)
  refine ⟨⟨h.ms.kq.trans (hg.kq h.np), h.ms.pl, h.ms.sub, h.ms.np, ⟨v, ps, hb', hst.same fun g hgl e => hg.block g hgl fun e' => h.ne v _ hbx g e'.symm e⟩, h.ms.le⟩, by rw [List.map_append]; exact hr, ho.np h.np (fun e => by have := h.ms.pl _ e; omega), fun v' fu hb g hg' hv => ?_⟩
  have e := List.head_eq_of_cons_eq (Bx.uniq hb hb')
  rw [e] at hv
  rcases ho with ho | ho
  · exact h.ne v _ hbx g (ho ▸ hg') hv
  · rw [ho] at hg'
    cases hg'
    have := (hst.ow.lt _ hv).2
    omega

set_option maxRecDepth 100000 in
set_option maxHeartbeats 4000000 in
theorem repeat_ok (t : Rx.T) (hmk : MakeC t) (mn : Nat) (mx : Int) (few plus : Bool) : RepeatC t mn mx few plus := by
  intro P Q w0 w mb m v h hT
  obtain ⟨b, sp, ks, us, hv, hbW, hkW, hl, hkids, hB⟩ := hT.parts
  subst hv
  have hbW : ∀ W, Kq Q w0 W → Bx W b [.int .i64 7, sp, .bool false, .int .i64 0, .int .i64 mn, .int .i64 mx, .bool few, .bool plus, ks] := hbW
  have hmn : mn ≤ 100 := by have := hB.2.2.1; exact Int.ofNat_le.1 this
  have hmx : mx ≤ 100 := hB.2.2.2
  have hl1 : us.length = 1 := hl
  obtain ⟨u, hu⟩ : ∃ u, us[0]? = some u := ⟨_, List.getElem?_eq_getElem (by omega)⟩
  have hTu : Tr w0 Q t u := hkids 0 t u rfl hu
  have hgetu : (us.map fun u => [u])[0]? = some [u] := by rw [List.getElem?_map, hu]; rfl
  have hb := hbW w h.kt
  have hk := hkW w h.kt
  obtain ⟨v0, ps0, hbx0, hst0⟩ := h.ex
  have hvs0 := hst0.ow.sli
  have hzl0 := hst0.zl
  have hle0 := h.le
  refine ret_of_G Tryd.func58 rfl Tryd.ntmps58 rfl ?_
  simp only [argEnv]
  try (first | refine gl tb ?_ | refine gg tb ?_ | refine ll tb ?_ | refine lg tb ?_); repeat ((first | refine G.condT rfl ?_ | refine G.condF rfl ?_ | refine sFa tb ?_ | refine sLd tb ?_ | refine sLa tb ?_ | refine sLen tb ?_ | refine sFd tb ?_ | refine sBd tb ?_ | refine sIa tb 0 ?_); try (first | refine gl tb ?_ | refine gg tb ?_ | refine ll tb ?_ | refine lg tb ?_))
  first | refine G.condD rfl (fun hc => ?_) (fun hc => ?_) | refine G.condN rfl (fun hc => ?_) (fun hc => ?_) | refine G.cond rfl (fun hc => ?_) (fun hc => ?_)
  · have hpl : plus = true := hc
    subst hpl
    unfold Rx.repeatP
    rw [if_pos rfl]
    try (first | refine gl tb ?_ | refine gg tb ?_ | refine ll tb ?_ | refine lg tb ?_); repeat ((first | refine G.condT rfl ?_ | refine G.condF rfl ?_ | refine sFa tb ?_ | refine sLd tb ?_ | refine sLa tb ?_ | refine sLen tb ?_ | refine sFd tb ?_ | refine sBd tb ?_ | refine sBa tb ?_); try (first | refine gl tb ?_ | refine gg tb ?_ | refine ll tb ?_ | refine lg tb ?_))
    rw [hzl0]
    try (first | refine gl tb ?_ | refine gg tb ?_ | refine ll tb ?_ | refine lg tb ?_); repeat ((first | refine G.condT rfl ?_ | refine G.condF rfl ?_ | refine sFa tb ?_ | refine sLd tb ?_ | refine sLa tb ?_ | refine sLen tb ?_ | refine sFd tb ?_ | refine sBd tb ?_ | refine sBa tb ?_); try (first | refine gl tb ?_ | refine gg tb ?_ | refine ll tb ?_ | refine lg tb ?_))
    refine sCall c35 (hmk P Q w0 w mb m u h hTu) ?_
    rintro _ W1 h1
    have hp1 := Rx.make_gr t m
    generalize Rx.make t m = m1 at h1 hp1 ⊢
    try (first | refine gl tb ?_ | refine gg tb ?_ | refine ll tb ?_ | refine lg tb ?_); repeat ((first | refine G.condT rfl ?_ | refine G.condF rfl ?_ | refine sFa tb ?_ | refine sLd tb ?_ | refine sLa tb ?_ | refine sLen tb ?_ | refine sFd tb ?_ | refine sBd tb ?_ | refine sBa tb ?_); try (first | refine gl tb ?_ | refine gg tb ?_ | refine ll tb ?_ | refine lg tb ?_))
    refine sCall c36 (put_ok w0 W1 mb m1 (Rx.kOf 4) (.pointer none) h1 (kof _ _ _ (by decide))) ?_
    rintro _ W2 ⟨rfl, h2⟩
    have ha2 := @Rx.put_at m1 (Rx.kOf 4)
    have hi2u := put_ix m1 (Rx.kOf 4)
    have hle1 := h1.le
    simp only
    generalize Rx.put m1 (Rx.kOf 4) = r2 at h2 ha2 hi2u ⊢
    obtain ⟨m2, i2⟩ := r2
    simp only at h2 ha2 hi2u ⊢
    clear hb
    have hb := hbW W2 h2.kt
    try (first | refine gl tb ?_ | refine gg tb ?_ | refine ll tb ?_ | refine lg tb ?_); repeat ((first | refine G.condT rfl ?_ | refine G.condF rfl ?_ | refine sFa tb ?_ | refine sLd tb ?_ | refine sLa tb ?_ | refine sLen tb ?_ | refine sFd tb ?_ | refine sBd tb ?_ | refine sBa tb ?_); try (first | refine gl tb ?_ | refine gg tb ?_ | refine ll tb ?_ | refine lg tb ?_))
    refine sAd tb (r := ((i2 + 1 : Nat) : Int)) ?_ (hp := by rw [wrap_i64 (by omega) (by omega)]; omega)
    try (first | refine gl tb ?_ | refine gg tb ?_ | refine ll tb ?_ | refine lg tb ?_); repeat ((first | refine G.condT rfl ?_ | refine G.condF rfl ?_ | refine sFa tb ?_ | refine sLd tb ?_ | refine sLa tb ?_ | refine sLen tb ?_ | refine sFd tb ?_ | refine sBd tb ?_ | refine sBa tb ?_); try (first | refine gl tb ?_ | refine gg tb ?_ | refine ll tb ?_ | refine lg tb ?_))
    refine sCall c57 (fork_ok w0 W2 mb m2 i2 m.st.length (i2 + 1) few h2 (fun hf => by have := ha2 hf; omega)) ?_
    rintro _ W3 h3
    refine G.ret0 rfl rfl rfl ?_
    exact h3
  · have hpl : plus = false := hc
    subst hpl
    unfold Rx.repeatP
    rw [if_neg (by decide)]
    simp only
    try (first | refine gl tb ?_ | refine gg tb ?_ | refine ll tb ?_ | refine lg tb ?_); repeat ((first | refine G.condT rfl ?_ | refine G.condF rfl ?_ | refine sFa tb ?_ | refine sLd tb ?_ | refine sLa tb ?_ | refine sLen tb ?_ | refine sFd tb ?_ | refine sBd tb ?_ | refine sBa tb ?_); try (first | refine gl tb ?_ | refine gg tb ?_ | refine ll tb ?_ | refine lg tb ?_))
    refine (G.loop (fun p : Nat × Int × Rx.Mk => [(0, none, ptr mb), (1, none, ptr b), (4, none, u), (7, none, .int .i64 p.1), (8, none, .int .i64 p.2.1)])
      (fun p W => MkS P Q w0 W mb p.2.2 ∧ p.1 ≤ mn ∧ -1 ≤ p.2.1 ∧ p.2.1 ≤ 2000 ∧ Rx.loopN (Rx.make t) mn (mn - p.1) p.1 p.2.1 p.2.2 = Rx.loopN (Rx.make t) mn mn 0 (-1) m) (fun p => mn - p.1) (0, -1, m) (by repeat (first | exact Sub.nil _ | refine Sub.cons rfl ?_)) ⟨h, Nat.zero_le _, by simp only; omega, by simp only; omega, rfl⟩ ?_)
    clear hb hk hbx0 hvs0
    rintro ⟨k, was, m1⟩ W1 ⟨h1, hkl, hw1, hw2, hL⟩
    simp only at h1 hkl hw1 hw2 hL ⊢
    have hb := hbW W1 h1.kt
    obtain ⟨v1, ps1, hbx1, hst1⟩ := h1.ex
    have hvs1 := hst1.ow.sli
    have hzl1 := hst1.zl
    have hle1 := h1.le
    try (first | refine gl tb ?_ | refine gg tb ?_ | refine ll tb ?_ | refine lg tb ?_); repeat ((first | refine G.condT rfl ?_ | refine G.condF rfl ?_ | refine sFa tb ?_ | refine sLd tb ?_ | refine sLa tb ?_ | refine sLen tb ?_ | refine sFd tb ?_ | refine sBd tb ?_ | refine sBa tb ?_); try (first | refine gl tb ?_ | refine gg tb ?_ | refine ll tb ?_ | refine lg tb ?_))
    first | refine G.condD rfl (fun hc => ?_) (fun hc => ?_) | refine G.condN rfl (fun hc => ?_) (fun hc => ?_) | refine G.cond rfl (fun hc => ?_) (fun hc => ?_)
    · have hc1 : (k < mn ∧ ¬ m1.full = true ∧ was < (m1.st.length : Int)) := by
        rw [hzl1] at hc
        simpa [and_assoc] using hc
      have hlp : mn - k = (mn - (k + 1)) + 1 := by omega
      rw [hlp, Rx.loopN, if_pos hc1] at hL
      try (first | refine gl tb ?_ | refine gg tb ?_ | refine ll tb ?_ | refine lg tb ?_); repeat ((first | refine G.condT rfl ?_ | refine G.condF rfl ?_ | refine sFa tb ?_ | refine sLd tb ?_ | refine sLa tb ?_ | refine sLen tb ?_ | refine sFd tb ?_ | refine sBd tb ?_ | refine sBa tb ?_); try (first | refine gl tb ?_ | refine gg tb ?_ | refine ll tb ?_ | refine lg tb ?_))
      rw [hzl1]
      try (first | refine gl tb ?_ | refine gg tb ?_ | refine ll tb ?_ | refine lg tb ?_); repeat ((first | refine G.condT rfl ?_ | refine G.condF rfl ?_ | refine sFa tb ?_ | refine sLd tb ?_ | refine sLa tb ?_ | refine sLen tb ?_ | refine sFd tb ?_ | refine sBd tb ?_ | refine sBa tb ?_); try (first | refine gl tb ?_ | refine gg tb ?_ | refine ll tb ?_ | refine lg tb ?_))
      refine sCall c35 (hmk P Q w0 W1 mb m1 u h1 hTu) ?_
      rintro _ W2 h2
      try (first | refine gl tb ?_ | refine gg tb ?_ | refine ll tb ?_ | refine lg tb ?_); repeat ((first | refine G.condT rfl ?_ | refine G.condF rfl ?_ | refine sFa tb ?_ | refine sLd tb ?_ | refine sLa tb ?_ | refine sLen tb ?_ | refine sFd tb ?_ | refine sBd tb ?_ | refine sBa tb ?_); try (first | refine gl tb ?_ | refine gg tb ?_ | refine ll tb ?_ | refine lg tb ?_))
      refine sAd tb (r := ((k + 1 : Nat) : Int)) ?_
      try (first | refine gl tb ?_ | refine gg tb ?_ | refine ll tb ?_ | refine lg tb ?_); repeat ((first | refine G.condT rfl ?_ | refine G.condF rfl ?_ | refine sFa tb ?_ | refine sLd tb ?_ | refine sLa tb ?_ | refine sLen tb ?_ | refine sFd tb ?_ | refine sBd tb ?_ | refine sBa tb ?_); try (first | refine gl tb ?_ | refine gg tb ?_ | refine ll tb ?_ | refine lg tb ?_))
      exact G.lp (x := (k, was, m1)) (k + 1, (m1.st.length : Int), Rx.make t m1) (by repeat (first | exact Sub.nil _ | refine Sub.cons rfl ?_)) ⟨h2, by simp only; omega, by simp only; omega, by simp only; omega, hL⟩ (by simp only; omega)
    · have hc1 : ¬ (k < mn ∧ ¬ m1.full = true ∧ was < (m1.st.length : Int)) := by
        rw [hzl1] at hc
        simpa [and_assoc] using hc
      rw [loopN_end hc1] at hL
      rw [← hL]
      clear hL hc hc1 hw1 hw2
      try (first | refine gl tb ?_ | refine gg tb ?_ | refine ll tb ?_ | refine lg tb ?_); repeat ((first | refine G.condT rfl ?_ | refine G.condF rfl ?_ | refine sFa tb ?_ | refine sLd tb ?_ | refine sLa tb ?_ | refine sLen tb ?_ | refine sFd tb ?_ | refine sBd tb ?_ | refine sBa tb ?_); try (first | refine gl tb ?_ | refine gg tb ?_ | refine ll tb ?_ | refine lg tb ?_))
      first | refine G.condD rfl (fun hc => ?_) (fun hc => ?_) | refine G.condN rfl (fun hc => ?_) (fun hc => ?_) | refine G.cond rfl (fun hc => ?_) (fun hc => ?_)
      · have hx : mx < 0 := hc
        rw [if_pos hx]
        try (first | refine gl tb ?_ | refine gg tb ?_ | refine ll tb ?_ | refine lg tb ?_); repeat ((first | refine G.condT rfl ?_ | refine G.condF rfl ?_ | refine sFa tb ?_ | refine sLd tb ?_ | refine sLa tb ?_ | refine sLen tb ?_ | refine sFd tb ?_ | refine sBd tb ?_ | refine sBa tb ?_); try (first | refine gl tb ?_ | refine gg tb ?_ | refine ll tb ?_ | refine lg tb ?_))
        refine sCall c36 (put_ok w0 W1 mb m1 (Rx.kOf 4) (.pointer none) h1 (kof _ _ _ (by decide))) ?_
        rintro _ W2 ⟨rfl, h2⟩
        have hp2 := Rx.put_gr m1 (Rx.kOf 4)
        have ha2 := @Rx.put_at m1 (Rx.kOf 4)
        have hi2u := put_ix m1 (Rx.kOf 4)
        generalize Rx.put m1 (Rx.kOf 4) = r2 at h2 hp2 ha2 hi2u ⊢
        obtain ⟨m2, i2⟩ := r2
        simp only at h2 hp2 ha2 hi2u ⊢
        try (first | refine gl tb ?_ | refine gg tb ?_ | refine ll tb ?_ | refine lg tb ?_); repeat ((first | refine G.condT rfl ?_ | refine G.condF rfl ?_ | refine sFa tb ?_ | refine sLd tb ?_ | refine sLa tb ?_ | refine sLen tb ?_ | refine sFd tb ?_ | refine sBd tb ?_ | refine sBa tb ?_); try (first | refine gl tb ?_ | refine gg tb ?_ | refine ll tb ?_ | refine lg tb ?_))
        refine sCall c35 (hmk P Q w0 W2 mb m2 u h2 hTu) ?_
        rintro _ W3 h3
        have hp3 := Rx.make_gr t m2
        generalize Rx.make t m2 = m3 at h3 hp3 ⊢
        try (first | refine gl tb ?_ | refine gg tb ?_ | refine ll tb ?_ | refine lg tb ?_); repeat ((first | refine G.condT rfl ?_ | refine G.condF rfl ?_ | refine sFa tb ?_ | refine sLd tb ?_ | refine sLa tb ?_ | refine sLen tb ?_ | refine sFd tb ?_ | refine sBd tb ?_ | refine sBa tb ?_); try (first | refine gl tb ?_ | refine gg tb ?_ | refine ll tb ?_ | refine lg tb ?_))
        refine sCall c36 (put_ok w0 W3 mb m3 { Rx.kOf 5 with a := i2 } (.pointer none) h3 (.inr ⟨by simp [Rx.kOf], rfl⟩)) ?_
        rintro _ W4 ⟨_, h4⟩
        have hp4 := Rx.put_gr m3 { Rx.kOf 5 with a := i2 }
        generalize (Rx.put m3 { Rx.kOf 5 with a := i2 }).1 = m4 at h4 hp4 ⊢
        have hi4 : m4.full = false → i2 < m4.st.length := fun hf => by
          have h3f := hp4.ok hf
          have h2f := hp3.ok h3f
          have := ha2 h2f
          have := hp4.1
          have := hp3.1
          omega
        clear hb hbx1
        obtain ⟨v4, ps4, hbx4, hst4⟩ := h4.ex
        have hvs4 := hst4.ow.sli
        have hzl4 := hst4.zl
        have hle4 := h4.le
        have hkd := (Ext.drew W4).kq (P := P)
        have h4d : MkS P Q w0 W4.drew mb m4 := ⟨h4.kq.trans hkd, h4.pl, h4.sub, h4.np, ⟨v4, ps4, hbx4.to (Ext.drew W4), hst4.same fun g hg _ => (Ext.drew W4).block g hg⟩, h4.le⟩
        try (first | refine gl tb ?_ | refine gg tb ?_ | refine ll tb ?_ | refine lg tb ?_); repeat ((first | refine G.condT rfl ?_ | refine G.condF rfl ?_ | refine sFa tb ?_ | refine sLd tb ?_ | refine sLa tb ?_ | refine sLen tb ?_ | refine sFd tb ?_ | refine sBd tb ?_ | refine sBa tb ?_); try (first | refine gl tb ?_ | refine gg tb ?_ | refine ll tb ?_ | refine lg tb ?_))
        refine G.regionM [(0, true), (1, true), (2, true), (3, true), (4, true), (5, true), (6, true), (7, true), (8, true), (9, true), (10, true), (11, true), (12, true), (13, false)] (fun w' => Bx w' mb [v4, .bool m4.full] ∧ Kq Q w0 w') (by kernel_rfl) (by kernel_rfl) rfl mixed (⟨hbx4.to (Ext.drew W4), h4d.kt⟩) rfl ?_
        try (refine mm tb ?_); repeat ((first | refine dFa tb ?_ | refine dLd tb ?_ | refine dLa tb ?_ | refine dLen tb ?_ | refine dFd tb ?_); try (refine mm tb ?_))
        refine dAd tb (r := ((i2 + 1 : Nat) : Int)) ?_ (hp := by rw [wrap_i64 (by omega) (by omega)]; omega)
        try (refine mm tb ?_); repeat ((first | refine dFa tb ?_ | refine dLd tb ?_ | refine dLa tb ?_ | refine dLen tb ?_ | refine dFd tb ?_); try (refine mm tb ?_))
        refine dLd tb (u := v4) ?_ (hc := fun w' hS _ => Bx.c0 hS.1 (by exact rfl))
        try (refine mm tb ?_); repeat ((first | refine dFa tb ?_ | refine dLd tb ?_ | refine dLa tb ?_ | refine dLen tb ?_ | refine dFd tb ?_); try (refine mm tb ?_))
        refine dLd tb (u := .bool few) ?_ (hc := fun w' hS _ => Bx.ci (hbW w' hS.2) (i := 6) (by exact rfl))
        try (refine mm tb ?_); repeat ((first | refine dFa tb ?_ | refine dLd tb ?_ | refine dLa tb ?_ | refine dLen tb ?_ | refine dFd tb ?_); try (refine mm tb ?_))
        rw [hzl4]
        refine GM.eff (Step.callF rfl rfl rfl c57 rfl (fork_okB w0 W4.drew mb m4 i2 (i2 + 1) m4.st.length few h4d hi4) ?_)
        intro _ W5 ⟨h5, hB5⟩
        refine ⟨⟨hB5 v4 (hbx4.to (Ext.drew W4)), h5.kt⟩, ?_⟩
        refine GM.nil ?_
        refine G.ret0 rfl rfl rfl ?_
        exact h5
      · have hx : ¬ mx < 0 := hc
        rw [if_neg hx]
        try (first | refine gl tb ?_ | refine gg tb ?_ | refine ll tb ?_ | refine lg tb ?_); repeat ((first | refine G.condT rfl ?_ | refine G.condF rfl ?_ | refine sFa tb ?_ | refine sLd tb ?_ | refine sLa tb ?_ | refine sLen tb ?_ | refine sFd tb ?_ | refine sBd tb ?_ | refine sBa tb ?_); try (first | refine gl tb ?_ | refine gg tb ?_ | refine ll tb ?_ | refine lg tb ?_))
        refine (G.loop (fun p : Nat × Value × List Nat × Rx.Mk => [(0, none, ptr mb), (1, none, ptr b), (4, none, u), (10, none, p.2.1), (11, none, .int .i64 (p.1 : Nat))])
          (fun p W => MkF P Q w0 W mb p.2.2.2 p.2.1 p.2.2.1 ∧ mn ≤ p.1 ∧ p.1 ≤ 100 ∧ (∀ i ∈ p.2.2.1, i ≤ 2000 ∧ (p.2.2.2.full = false → i < p.2.2.2.st.length)) ∧ p.2.2.1.length = p.1 - mn ∧ Rx.loopF (Rx.make t) (mx.toNat - p.1) p.2.2.1 p.2.2.2 = Rx.loopF (Rx.make t) (mx.toNat - mn) [] m1) (fun p => mx.toNat - p.1) (mn, nilV, [], m1) (by repeat (first | exact Sub.nil _ | refine Sub.cons rfl ?_)) ⟨.nil h1, Nat.le_refl _, hmn, by simp, by simp, rfl⟩ ?_)
        clear hb hbx1 hvs1 hzl1 hst1
        rintro ⟨k2, fv, fl, m2⟩ W2 ⟨h2, hk1, hk2, hfi, hfl, hF⟩
        simp only at h2 hk1 hk2 hfi hfl hF ⊢
        have hb := hbW W2 h2.ms.kt
        obtain ⟨v2, ps2, hbx2, hst2⟩ := h2.ms.ex
        have hle2 := h2.ms.le
        try (first | refine gl tb ?_ | refine gg tb ?_ | refine ll tb ?_ | refine lg tb ?_); repeat ((first | refine G.condT rfl ?_ | refine G.condF rfl ?_ | refine sFa tb ?_ | refine sLd tb ?_ | refine sLa tb ?_ | refine sLen tb ?_ | refine sFd tb ?_ | refine sBd tb ?_ | refine sBa tb ?_); try (first | refine gl tb ?_ | refine gg tb ?_ | refine ll tb ?_ | refine lg tb ?_))
        first | refine G.condD rfl (fun hc => ?_) (fun hc => ?_) | refine G.condN rfl (fun hc => ?_) (fun hc => ?_) | refine G.cond rfl (fun hc => ?_) (fun hc => ?_)
        · have hc1 : (k2 : Int) < mx ∧ m2.full = false := by simpa using hc
          have hlp : mx.toNat - k2 = (mx.toNat - (k2 + 1)) + 1 := by omega
          rw [hlp, Rx.loopF, if_neg (by rw [hc1.2]; decide)] at hF
          try (first | refine gl tb ?_ | refine gg tb ?_ | refine ll tb ?_ | refine lg tb ?_); repeat ((first | refine G.condT rfl ?_ | refine G.condF rfl ?_ | refine sFa tb ?_ | refine sLd tb ?_ | refine sLa tb ?_ | refine sLen tb ?_ | refine sFd tb ?_ | refine sBd tb ?_ | refine sBa tb ?_); try (first | refine gl tb ?_ | refine gg tb ?_ | refine ll tb ?_ | refine lg tb ?_))
          refine sCall c36 (put_ok W2 W2 mb m2 (Rx.kOf 4) (.pointer none) h2.lift (kof _ _ _ (by decide))) ?_
          rintro _ W3 ⟨rfl, h3⟩
          have h3b := h2.back h3
          have hp3 := Rx.put_gr m2 (Rx.kOf 4)
          have ha3 := @Rx.put_at m2 (Rx.kOf 4)
          have hi3u := put_ix m2 (Rx.kOf 4)
          generalize Rx.put m2 (Rx.kOf 4) = r3 at h3b hp3 ha3 hi3u hF ⊢
          clear h3
          obtain ⟨m3, i3⟩ := r3
          simp only at h3b hp3 ha3 hi3u hF ⊢
          clear hb hbx2 hst2
          refine GL.cons (Step.buildSlice tb ([[Value.int .i64 i3]]) rfl rfl rfl rfl rfl rfl (by rfl) rfl (by rfl) (by rfl) (by rfl) (by simp) rfl ?_)
          intro u4 W4 ho4 hs4 hx4
          have h4b := h3b.to hx4
          have hB4 : mb + 1 ≤ W4.heap.size := by obtain ⟨_, _, hbx4, _⟩ := h4b.ms.ex; exact hbx4.lt
          have hlf : (fl.map fun (i : Nat) => [Value.int .i64 i]).length ≤ 100 := by rw [List.length_map]; omega
          refine GL.cons (Step.append2 tb rfl (Op1.of rfl (by first | exact fun _ => rfl | exact fun h => h | exact fun h => bL h | exact fun h => bL (bL h) | exact fun h => bL (bL (bL h)))) (Op1.of rfl (by first | exact fun _ => rfl | exact fun h => h | exact fun h => bL h | exact fun h => bL (bL h) | exact fun h => bL (bL (bL h)))) rfl rfl rfl (by rfl) (h4b.row) (ho4.sli) (by intro y hy c hc; simp only [List.mem_cons, List.not_mem_nil, or_false] at hy; subst hy; simp only [List.mem_cons, List.not_mem_nil, or_false] at hc; subst hc; rfl) (by simp only [List.length_map, List.length_append, List.length_cons, List.length_nil, List.length_take, List.length_drop]; omega) (by simp only [List.length_map, List.length_append, List.length_cons, List.length_nil, List.length_take, List.length_drop]; omega) (hB4) rfl ?_)
          intro fv5 W5 ho5 hg5 hw5
          have h5b := h4b.app ho5 hg5 hw5
          try (first | refine gl tb ?_ | refine gg tb ?_ | refine ll tb ?_ | refine lg tb ?_); repeat ((first | refine G.condT rfl ?_ | refine G.condF rfl ?_ | refine sFa tb ?_ | refine sLd tb ?_ | refine sLa tb ?_ | refine sLen tb ?_ | refine sFd tb ?_ | refine sBd tb ?_ | refine sBa tb ?_); try (first | refine gl tb ?_ | refine gg tb ?_ | refine ll tb ?_ | refine lg tb ?_))
          refine sCall c35 (hmk _ Q W5 W5 mb m3 u h5b.lift (h5b.tr hTu)) ?_
          rintro _ W6 h6
          have h6b := h5b.back h6
          have hp6 := Rx.make_gr t m3
          generalize Rx.make t m3 = m6 at h6b hp6 hF ⊢
          clear h6
          try (first | refine gl tb ?_ | refine gg tb ?_ | refine ll tb ?_ | refine lg tb ?_); repeat ((first | refine G.condT rfl ?_ | refine G.condF rfl ?_ | refine sFa tb ?_ | refine sLd tb ?_ | refine sLa tb ?_ | refine sLen tb ?_ | refine sFd tb ?_ | refine sBd tb ?_ | refine sBa tb ?_); try (first | refine gl tb ?_ | refine gg tb ?_ | refine ll tb ?_ | refine lg tb ?_))
          refine sAd tb (r := ((k2 + 1 : Nat) : Int)) ?_
          try (first | refine gl tb ?_ | refine gg tb ?_ | refine ll tb ?_ | refine lg tb ?_); repeat ((first | refine G.condT rfl ?_ | refine G.condF rfl ?_ | refine sFa tb ?_ | refine sLd tb ?_ | refine sLa tb ?_ | refine sLen tb ?_ | refine sFd tb ?_ | refine sBd tb ?_ | refine sBa tb ?_); try (first | refine gl tb ?_ | refine gg tb ?_ | refine ll tb ?_ | refine lg tb ?_))
          refine G.lp (x := (k2, fv, fl, m2)) (k2 + 1, fv5, fl ++ [i3], m6) (by repeat (first | exact Sub.nil _ | refine Sub.cons rfl ?_)) ⟨h6b, by simp only; omega, by simp only; omega, fun i hi => ?_, by simp only [List.length_append, List.length_cons, List.length_nil]; omega, hF⟩ (by simp only; omega)
          simp only [List.mem_append, List.mem_cons, List.not_mem_nil, or_false] at hi
          have hp36 := hp3.1
          have hp61 := hp6.1
          rcases hi with hi | rfl
          · refine ⟨(hfi i hi).1, fun hf => ?_⟩
            have := (hfi i hi).2 hc1.2
            show i < m6.st.length
            omega
          · refine ⟨by omega, fun hf => ?_⟩
            have := ha3 (hp6.ok hf)
            show i < m6.st.length
            omega
        · have hc1 : ¬ ((k2 : Int) < mx ∧ m2.full = false) := by simpa using hc
          have hF2 : Rx.loopF (Rx.make t) (mx.toNat - k2) fl m2 = (m2, fl) := by
            rcases hn : mx.toNat - k2 with _ | n
            · rfl
            · rw [Rx.loopF, if_pos]
              rcases hf : m2.full with _ | _
              · exact absurd ⟨by omega, hf⟩ hc1
              · rfl
          rw [hF2] at hF
          rw [← hF]
          simp only
          clear hF hF2 hc1 hc hb
          have hvf := h2.row.sli
          have hlf : (fl.map fun (i : Nat) => [Value.int .i64 i]).length = fl.length := List.length_map _
          try (first | refine gl tb ?_ | refine gg tb ?_ | refine ll tb ?_ | refine lg tb ?_); repeat ((first | refine G.condT rfl ?_ | refine G.condF rfl ?_ | refine sFa tb ?_ | refine sLd tb ?_ | refine sLa tb ?_ | refine sLen tb ?_ | refine sFd tb ?_ | refine sBd tb ?_ | refine sBa tb ?_); try (first | refine gl tb ?_ | refine gg tb ?_ | refine ll tb ?_ | refine lg tb ?_))
          rw [hlf]
          try (first | refine gl tb ?_ | refine gg tb ?_ | refine ll tb ?_ | refine lg tb ?_); repeat ((first | refine G.condT rfl ?_ | refine G.condF rfl ?_ | refine sFa tb ?_ | refine sLd tb ?_ | refine sLa tb ?_ | refine sLen tb ?_ | refine sFd tb ?_ | refine sBd tb ?_ | refine sBa tb ?_); try (first | refine gl tb ?_ | refine gg tb ?_ | refine ll tb ?_ | refine lg tb ?_))
          refine (G.loop (fun p : Nat × Rx.Mk => [(0, none, ptr mb), (1, none, ptr b), (134, none, fv), (135, none, .int .i64 fl.length), (136, none, .int .i64 p.1)])
            (fun p W => MkF P Q w0 W mb p.2 fv fl ∧ p.1 ≤ fl.length ∧ p.2.full = m2.full ∧ p.2.st.length = m2.st.length ∧ Rx.forks few (fl.drop p.1) p.2 = Rx.forks few fl m2) (fun p => fl.length - p.1) (0, m2) (by repeat (first | exact Sub.nil _ | refine Sub.cons rfl ?_)) ⟨h2, Nat.zero_le _, rfl, rfl, rfl⟩ ?_)
          clear hvf hbx2 hst2 h2 
          rintro ⟨j, m3⟩ W3 ⟨h3, hj, hfu, hln, hF⟩
          simp only at h3 hj hfu hln hF ⊢
          try (first | refine gl tb ?_ | refine gg tb ?_ | refine ll tb ?_ | refine lg tb ?_); repeat ((first | refine G.condT rfl ?_ | refine G.condF rfl ?_ | refine sFa tb ?_ | refine sLd tb ?_ | refine sLa tb ?_ | refine sLen tb ?_ | refine sFd tb ?_ | refine sBd tb ?_ | refine sBa tb ?_); try (first | refine gl tb ?_ | refine gg tb ?_ | refine ll tb ?_ | refine lg tb ?_))
          first | refine G.condD rfl (fun hc => ?_) (fun hc => ?_) | refine G.condN rfl (fun hc => ?_) (fun hc => ?_) | refine G.cond rfl (fun hc => ?_) (fun hc => ?_)
          · have hlt : j < fl.length := by omega
            have hget : (fl.map fun (i : Nat) => [Value.int .i64 i])[j]? = some [.int .i64 (fl[j] : Nat)] := by rw [List.getElem?_map, List.getElem?_eq_getElem hlt]; rfl
            have hvf := h3.row.sli
            have hij := hfi fl[j] (List.getElem_mem hlt)
            rw [List.drop_eq_getElem_cons hlt, Rx.forks] at hF
            generalize fl[j] = i at hget hij hF
            try (first | refine gl tb ?_ | refine gg tb ?_ | refine ll tb ?_ | refine lg tb ?_); repeat ((first | refine G.condT rfl ?_ | refine G.condF rfl ?_ | refine sFa tb ?_ | refine sLd tb ?_ | refine sLa tb ?_ | refine sLen tb ?_ | refine sFd tb ?_ | refine sBd tb ?_ | refine sIa tb j ?_); try (first | refine gl tb ?_ | refine gg tb ?_ | refine ll tb ?_ | refine lg tb ?_))
            have h4 := h3.to (Ext.drew W3)
            generalize hW4 : W3.drew = W4 at h4
            obtain ⟨v4, ps4, hbx4, hst4⟩ := h4.ms.ex
            have hvs4 := hst4.ow.sli
            have hzl4 := hst4.zl
            have hle4 := h4.ms.le
            refine G.regionM [(0, true), (1, true), (2, true), (3, true), (4, true), (5, true), (6, true), (7, true), (8, true), (9, true), (10, true), (11, true), (12, true), (13, false)] (fun w' => Bx w' mb [v4, .bool m3.full] ∧ Kq Q w0 w') (by kernel_rfl) (by kernel_rfl) rfl mixed (by rw [hW4]; exact ⟨hbx4, h4.ms.kt⟩) rfl ?_
            rw [hW4]
            try (refine mm tb ?_); repeat ((first | refine dFa tb ?_ | refine dLd tb ?_ | refine dLa tb ?_ | refine dLen tb ?_ | refine dFd tb ?_); try (refine mm tb ?_))
            refine dAd tb (r := ((i + 1 : Nat) : Int)) ?_ (hp := by rw [wrap_i64 (by omega) (by omega)]; omega)
            try (refine mm tb ?_); repeat ((first | refine dFa tb ?_ | refine dLd tb ?_ | refine dLa tb ?_ | refine dLen tb ?_ | refine dFd tb ?_); try (refine mm tb ?_))
            refine dLd tb (u := v4) ?_ (hc := fun w' hS _ => Bx.c0 hS.1 (by exact rfl))
            try (refine mm tb ?_); repeat ((first | refine dFa tb ?_ | refine dLd tb ?_ | refine dLa tb ?_ | refine dLen tb ?_ | refine dFd tb ?_); try (refine mm tb ?_))
            refine dLd tb (u := .bool few) ?_ (hc := fun w' hS _ => Bx.ci (hbW w' hS.2) (i := 6) (by exact rfl))
            try (refine mm tb ?_); repeat ((first | refine dFa tb ?_ | refine dLd tb ?_ | refine dLa tb ?_ | refine dLen tb ?_ | refine dFd tb ?_); try (refine mm tb ?_))
            rw [hzl4]
            refine GM.eff (Step.callF rfl rfl rfl c57 rfl (fork_okB W4 W4 mb m3 i (i + 1) m3.st.length few h4.lift (fun hf => by rw [hln]; exact hij.2 (hfu ▸ hf))) ?_)
            intro _ W5 ⟨h5, hB5⟩
            have h5b := h4.back h5
            refine ⟨⟨by have := hB5 v4 hbx4; exact this, h5b.ms.kt⟩, ?_⟩
            refine GM.nil ?_
            try (first | refine gl tb ?_ | refine gg tb ?_ | refine ll tb ?_ | refine lg tb ?_); repeat ((first | refine G.condT rfl ?_ | refine G.condF rfl ?_ | refine sFa tb ?_ | refine sLd tb ?_ | refine sLa tb ?_ | refine sLen tb ?_ | refine sFd tb ?_ | refine sBd tb ?_ | refine sBa tb ?_); try (first | refine gl tb ?_ | refine gg tb ?_ | refine ll tb ?_ | refine lg tb ?_))
            refine sAd tb (r := ((j + 1 : Nat) : Int)) ?_
            try (first | refine gl tb ?_ | refine gg tb ?_ | refine ll tb ?_ | refine lg tb ?_); repeat ((first | refine G.condT rfl ?_ | refine G.condF rfl ?_ | refine sFa tb ?_ | refine sLd tb ?_ | refine sLa tb ?_ | refine sLen tb ?_ | refine sFd tb ?_ | refine sBd tb ?_ | refine sBa tb ?_); try (first | refine gl tb ?_ | refine gg tb ?_ | refine ll tb ?_ | refine lg tb ?_))
            exact G.lp (x := (j, m3)) (j + 1, Rx.fork m3 i (i + 1) m3.st.length few) (by repeat (first | exact Sub.nil _ | refine Sub.cons rfl ?_)) ⟨h5b, by simp only; omega, by simp only; rw [Rx.fork_full]; exact hfu, by simp only; rw [Rx.fork_len]; exact hln, hF⟩ (by simp only; omega)
          · have hje : j = fl.length := by omega
            subst hje
            rw [List.drop_length, Rx.forks] at hF
            rw [← hF]
            try (first | refine gl tb ?_ | refine gg tb ?_ | refine ll tb ?_ | refine lg tb ?_); repeat ((first | refine G.condT rfl ?_ | refine G.condF rfl ?_ | refine sFa tb ?_ | refine sLd tb ?_ | refine sLa tb ?_ | refine sLen tb ?_ | refine sFd tb ?_ | refine sBd tb ?_ | refine sBa tb ?_); try (first | refine gl tb ?_ | refine gg tb ?_ | refine ll tb ?_ | refine lg tb ?_))
            refine G.end0 rfl rfl rfl ?_
            exact h3.ms
end Go.Proofs.YtbpkhgehchelhaaDoor
