/- regex: Compile, walked. -/
import Derived.Test.YtbpkhgehchelhaaDoorRQ
import Derived.Test.YtbpkhgehchelhaaDoorGR1
import Derived.Test.YtbpkhgehchelhaaDoorGV3
open Go Go.Vg Go.RowKit Go.Proofs Go.Proofs.YtbpkhgehchelhaaDoor
namespace Go.Proofs.YtbpkhgehchelhaaDoor
set_option linter.unusedSimpArgs false

theorem make_all (t : Rx.T) : MakeC t := by
  refine Rx.T.rec (motive_1 := fun t => MakeC t) (motive_2 := fun l => ∀ t ∈ l, MakeC t) ?_ ?_ ?_ ?_ ?_ ?_ ?_ ?_ ?_ ?_ t
  · exact make_ok _ (fun t' h => by simp [kidsT] at h) (fun _ _ _ _ _ h => by cases h)
  · intro l neg; exact make_ok _ (fun t' h => by simp [kidsT] at h) (fun _ _ _ _ _ h => by cases h)
  · exact make_ok _ (fun t' h => by simp [kidsT] at h) (fun _ _ _ _ _ h => by cases h)
  · exact make_ok _ (fun t' h => by simp [kidsT] at h) (fun _ _ _ _ _ h => by cases h)
  · intro n t ih; exact make_ok _ (fun t' h => by simp [kidsT] at h; subst h; exact ih) (fun _ _ _ _ _ h => by cases h)
  · intro l ih; exact make_ok _ (fun t' h => ih t' (by simpa [kidsT] using h)) (fun _ _ _ _ _ h => by cases h)
  · intro a b iha ihb; exact make_ok _ (fun t' h => by simp [kidsT] at h; rcases h with rfl | rfl; exact iha; exact ihb) (fun _ _ _ _ _ h => by cases h)
  · intro mn mx few plus t ih
    exact make_ok _ (fun t' h => by simp [kidsT] at h; subst h; exact ih) (fun mn' mx' few' plus' t' h => by cases h; exact repeat_ok t ih mn mx few plus)
  · intro t h; simp at h
  · intro t l iht ihl t' h
    rcases List.mem_cons.1 h with rfl | h
    · exact iht
    · exact ihl t' h

/-- a program in memory, its blocks of a set -/
structure PrS (w : World) (A : Nat → Prop) (pb : Nat) (st : List Rx.K) (g : Nat) : Prop where
  at_ : A pb
  ex : ∃ v ps, Bx w pb [v, .int .i64 g] ∧ Owns w 0 v 75 5 (List.zipWith stC st ps) ∧ (∀ b, v.ownBlock = some b → A b) ∧ ps.length = st.length ∧
    ∀ (i : Nat) (k : Rx.K) (p : Value), st[i]? = some k → ps[i]? = some p → Stp A w k p
  le : st.length ≤ 2000
theorem Stp.same {A A' : Nat → Prop} {w w' : World} {k : Rx.K} {p : Value} (h : Stp A w k p) (hs : ∀ b, b < w.heap.size → A b → w'.heap[b]? = w.heap[b]? ∧ A' b) : Stp A' w' k p := by
  rcases h with ⟨h1, h2⟩ | h
  · exact .inl ⟨h1, h2.same hs⟩
  · exact .inr h
theorem PrS.same {A A' : Nat → Prop} {w w' : World} {pb : Nat} {st : List Rx.K} {g : Nat} (h : PrS w A pb st g) (hs : ∀ b, b < w.heap.size → A b → w'.heap[b]? = w.heap[b]? ∧ A' b) : PrS w' A' pb st g := by
  obtain ⟨ha, ⟨v, ps, hbx, how, hA, hl, htr⟩, hle⟩ := h
  have h1 := hs pb hbx.lt ha
  exact ⟨h1.2, ⟨v, ps, hbx.same h1.1, how.same fun b hb e => (hs b hb (hA b e)).1, fun b e => (hs b (how.lt b e).2 (hA b e)).2, hl, fun i k p hi hp => (htr i k p hi hp).same hs⟩, hle⟩
theorem PrS.to {A : Nat → Prop} {w w' : World} {pb : Nat} {st : List Rx.K} {g : Nat} (h : PrS w A pb st g) (hx : Ext w w') : PrS w' A pb st g := h.same fun b hb hA => ⟨hx.block b hb, hA⟩

/-- what Compile gives -/
def CompS (s : List UInt8) (w : World) (r : Value) (w' : World) : Prop :=
  Ext w w' ∧ ((∃ st g pb, Rx.compileP s = .ok (st, g) ∧ PrS w' (fun b => w.heap.size ≤ b) pb st g ∧ r = .tuple ⟨[ptr pb, .int .i64 0, .int .i64 0]⟩) ∨
    (∃ e f, Rx.compileP s = .error (e, f) ∧ r = .tuple ⟨[.pointer none, .int .i64 (e : Nat), .int .i64 (if f = 1 then 8 else 9)]⟩))
set_option maxHeartbeats 4000000 in
theorem compile_ok (w : World) (s : List UInt8) (hT : Tabs w) (hl : s.length ≤ 9223372036854775807) : Ret Tryd.prog 11 ⟨[S s]⟩ w (CompS s w) := by
  refine ret_of_G Tryd.func11 rfl Tryd.ntmps11 rfl ?_
  simp only [argEnv]
  try (first | refine gl tb ?_ | refine gg tb ?_ | refine ll tb ?_ | refine lg tb ?_); repeat ((first | refine G.condT rfl ?_ | refine G.condF rfl ?_ | refine sFa tb ?_ | refine sLd tb ?_ | refine sLa tb ?_ | refine sLen tb ?_ | refine sFd tb ?_ | refine sBd tb ?_ | refine sBa tb ?_); try (first | refine gl tb ?_ | refine gg tb ?_ | refine ll tb ?_ | refine lg tb ?_))
  first | refine G.condD rfl (fun hc => ?_) (fun hc => ?_) | refine G.condN rfl (fun hc => ?_) (fun hc => ?_) | refine G.cond rfl (fun hc => ?_) (fun hc => ?_)
  · have hc1 : 256 < s.length := by omega
    try (first | refine gl tb ?_ | refine gg tb ?_ | refine ll tb ?_ | refine lg tb ?_); repeat ((first | refine G.condT rfl ?_ | refine G.condF rfl ?_ | refine sFa tb ?_ | refine sLd tb ?_ | refine sLa tb ?_ | refine sLen tb ?_ | refine sFd tb ?_ | refine sBd tb ?_ | refine sBa tb ?_); try (first | refine gl tb ?_ | refine gg tb ?_ | refine ll tb ?_ | refine lg tb ?_))
    refine G.ret3 rfl rfl rfl rfl rfl rfl ?_
    refine ⟨Ext.refl _, .inr ⟨0, 2, ?_, rfl⟩⟩
    unfold Rx.compileP; rw [if_pos hc1]
  have hc1 : ¬ 256 < s.length := by omega
  try (first | refine gl tb ?_ | refine gg tb ?_ | refine ll tb ?_ | refine lg tb ?_); repeat ((first | refine G.condT rfl ?_ | refine G.condF rfl ?_ | refine sFa tb ?_ | refine sLd tb ?_ | refine sLa tb ?_ | refine sLen tb ?_ | refine sFd tb ?_ | refine sBd tb ?_ | refine sBa tb ?_); try (first | refine gl tb ?_ | refine gg tb ?_ | refine ll tb ?_ | refine lg tb ?_))
  refine sCall c34 (read_ok w s (by omega) hT) ?_
  rintro _ W1 ⟨hx1, ⟨t, g, v, hP, hTr, rfl⟩ | ⟨e, hP, rfl⟩⟩
  rotate_left
  · try (first | refine gl tb ?_ | refine gg tb ?_ | refine ll tb ?_ | refine lg tb ?_); repeat ((first | refine G.condT rfl ?_ | refine G.condF rfl ?_ | refine sFa tb ?_ | refine sLd tb ?_ | refine sLa tb ?_ | refine sLen tb ?_ | refine sFd tb ?_ | refine sBd tb ?_ | refine sBa tb ?_); try (first | refine gl tb ?_ | refine gg tb ?_ | refine ll tb ?_ | refine lg tb ?_))
    refine G.ret3 rfl rfl rfl rfl rfl rfl ?_
    refine ⟨hx1, .inr ⟨e, 1, ?_, rfl⟩⟩
    unfold Rx.compileP; rw [if_neg hc1, hP]
  · have hcp := Rx.compileP_eq s
    rw [if_neg hc1, hP] at hcp
    simp only at hcp
    try (first | refine gl tb ?_ | refine gg tb ?_ | refine ll tb ?_ | refine lg tb ?_); repeat ((first | refine G.condT rfl ?_ | refine G.condF rfl ?_ | refine sFa tb ?_ | refine sLd tb ?_ | refine sLa tb ?_ | refine sLen tb ?_ | refine sFd tb ?_ | refine sBd tb ?_ | refine sBa tb ?_); try (first | refine gl tb ?_ | refine gg tb ?_ | refine ll tb ?_ | refine lg tb ?_))
    refine sBox (fun W2 hb2 hs2 hx2 => ?_)
    try (first | refine gl tb ?_ | refine gg tb ?_ | refine ll tb ?_ | refine lg tb ?_); repeat ((first | refine G.condT rfl ?_ | refine G.condF rfl ?_ | refine sFa tb ?_ | refine sLd tb ?_ | refine sLa tb ?_ | refine sLen tb ?_ | refine sFd tb ?_ | refine sBd tb ?_ | refine sBa tb ?_); try (first | refine gl tb ?_ | refine gg tb ?_ | refine ll tb ?_ | refine lg tb ?_))
    have hm0 : MkS (fun b => b < W1.heap.size) (fun b => w.heap.size ≤ b ∧ b < W1.heap.size) W2 W2 W1.heap.size ⟨[], false⟩ :=
      ⟨Kq.refl _ _, fun b hb => Nat.lt_of_lt_of_le hb hx2.size, fun b hb => hb.2, Nat.lt_irrefl _, ⟨nilV, [], hb2, ⟨Owns.nil _ _ _ _, rfl, fun i k p h => by simp at h, fun g h => by cases h⟩⟩, by simp⟩
    have hT2 : Tr W2 (fun b => w.heap.size ≤ b ∧ b < W1.heap.size) t v := hTr.same fun b hb hA => ⟨hx2.block b hb, hA, hb⟩
    refine sCall c35 (make_all t _ _ _ _ _ _ _ hm0 hT2) ?_
    intro _ W3 hm3
    try (first | refine gl tb ?_ | refine gg tb ?_ | refine ll tb ?_ | refine lg tb ?_); repeat ((first | refine G.condT rfl ?_ | refine G.condF rfl ?_ | refine sFa tb ?_ | refine sLd tb ?_ | refine sLa tb ?_ | refine sLen tb ?_ | refine sFd tb ?_ | refine sBd tb ?_ | refine sBa tb ?_); try (first | refine gl tb ?_ | refine gg tb ?_ | refine ll tb ?_ | refine lg tb ?_))
    refine sCall c36 (put_ok _ W3 W1.heap.size _ (Rx.kOf 6) (.pointer none) hm3 (kof _ _ 6 (by decide))) ?_
    rintro _ W4 ⟨rfl, hm4⟩
    have hmp := Rx.make_prog t
    simp only at hmp
    generalize Rx.put (Rx.make t ⟨[], false⟩) (Rx.kOf 6) = pm at hm4 hmp
    obtain ⟨⟨st, full⟩, pi⟩ := pm
    simp only at hm4 hmp
    obtain ⟨hkq, _, _, _, ⟨sv, ps, hbx, hst⟩, hle⟩ := hm4
    have hx4 : Ext w W4 := ⟨hkq.os.trans (hx1.trans hx2).os, hkq.tape.trans (hx1.trans hx2).tape, hkq.output.trans (hx1.trans hx2).output, Nat.le_trans (hx1.trans hx2).size hkq.size, fun b hb => (hkq.same b (Nat.lt_of_lt_of_le hb (hx1.trans hx2).size) (Nat.lt_of_lt_of_le hb hx1.size)).trans ((hx1.trans hx2).block b hb)⟩
    have hbx : Bx W4 W1.heap.size [sv, .bool full] := hbx
    have hvs := hst.ow.sli
    try (first | refine gl tb ?_ | refine gg tb ?_ | refine ll tb ?_ | refine lg tb ?_); repeat ((first | refine G.condT rfl ?_ | refine G.condF rfl ?_ | refine sFa tb ?_ | refine sLd tb ?_ | refine sLa tb ?_ | refine sLen tb ?_ | refine sFd tb ?_ | refine sBd tb ?_ | refine sBa tb ?_); try (first | refine gl tb ?_ | refine gg tb ?_ | refine ll tb ?_ | refine lg tb ?_))
    cases full
    · have hsz : ¬ 2000 < Rx.sizeT t + 1 := fun hc => by have := hmp.2 hc; cases this
      have hst0 : st = Rx.progT t := by have := hmp.1 (by omega); simp only [Rx.Mk.mk.injEq] at this; exact this.1
      subst hst0
      rw [if_neg hsz] at hcp
      obtain ⟨sa, sc, hse, _⟩ := hvs.len
      subst hse
      try (first | refine gl tb ?_ | refine gg tb ?_ | refine ll tb ?_ | refine lg tb ?_); repeat ((first | refine G.condT rfl ?_ | refine G.condF rfl ?_ | refine sFa tb ?_ | refine sLd tb ?_ | refine sLa tb ?_ | refine sLen tb ?_ | refine sFd tb ?_ | refine sBd tb ?_ | refine sBa tb ?_); try (first | refine gl tb ?_ | refine gg tb ?_ | refine ll tb ?_ | refine lg tb ?_))
      refine sBox (fun W5 hb5 hs5 hx5 => ?_)
      try (first | refine gl tb ?_ | refine gg tb ?_ | refine ll tb ?_ | refine lg tb ?_); repeat ((first | refine G.condT rfl ?_ | refine G.condF rfl ?_ | refine sFa tb ?_ | refine sLd tb ?_ | refine sLa tb ?_ | refine sLen tb ?_ | refine sFd tb ?_ | refine sBd tb ?_ | refine sBa tb ?_); try (first | refine gl tb ?_ | refine gg tb ?_ | refine ll tb ?_ | refine lg tb ?_))
      refine G.ret3 rfl rfl rfl rfl rfl rfl ?_
      refine ⟨hx4.trans hx5, .inl ⟨_, g, W4.heap.size, hcp, ⟨hx4.size, ⟨_, ps, hb5, (hst.ow.to hx5).mono (Nat.zero_le _), fun b e => ?_, hst.len, fun i k p hi hp => (hst.tr i k p hi hp).same fun b hb hQ => ?_⟩, hle⟩, rfl⟩⟩
      · have := (hst.ow.lt b e).1; have := hx1.size; omega
      · exact ⟨(hx5.block b (Nat.lt_of_lt_of_le hb hkq.size)).trans (hkq.same b hb hQ.2), hQ.1⟩
    · have hsz : 2000 < Rx.sizeT t + 1 := Decidable.byContradiction fun hc => by have := hmp.1 (by omega); simp at this
      rw [if_pos hsz] at hcp
      try (first | refine gl tb ?_ | refine gg tb ?_ | refine ll tb ?_ | refine lg tb ?_); repeat ((first | refine G.condT rfl ?_ | refine G.condF rfl ?_ | refine sFa tb ?_ | refine sLd tb ?_ | refine sLa tb ?_ | refine sLen tb ?_ | refine sFd tb ?_ | refine sBd tb ?_ | refine sBa tb ?_); try (first | refine gl tb ?_ | refine gg tb ?_ | refine ll tb ?_ | refine lg tb ?_))
      refine G.ret3 rfl rfl rfl rfl rfl rfl ?_
      exact ⟨hx4, .inr ⟨0, 2, hcp, rfl⟩⟩
end Go.Proofs.YtbpkhgehchelhaaDoor
