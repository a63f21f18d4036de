/- LabelsRead, walked. -/
import Derived.Test.YtfffblopkaandaaDoorLRr
open Go Go.Vg Go.RowKit Go.Proofs Go.Proofs.YtfffblopkaandaaDoor
namespace Go.Proofs.YtfffblopkaandaaDoor
set_option linter.unusedSimpArgs false

def marksB : List UInt8 := [201, 202, 203, 204]
theorem lendB_ok (v : Value) (xs : List UInt8) (w : World) (hv : By w v xs) (hn : xs.length ≤ 100000) :
    Ret Tryd.prog 33 ⟨[v]⟩ w fun r w' => ∃ u, r = subS u 1 0 xs.length ∧ BO w' w.heap.size u (xs ++ marksB) ∧ Ext w w' := by
  refine ret_of_G Tryd.func33 rfl Tryd.ntmps33 rfl ?_
  simp only [argEnv]
  try (first | refine gl tb ?_ | refine gg tb ?_ | refine ll tb ?_ | refine lg tb ?_); repeat ((first | refine G.condT rfl ?_ | refine G.condF rfl ?_ | refine sFa tb ?_ | refine sLd tb ?_ | refine sLa tb ?_ | refine sLen tb ?_ | refine sFd tb ?_ | refine sBd tb ?_ | refine sBa tb ?_); try (first | refine gl tb ?_ | refine gg tb ?_ | refine ll tb ?_ | refine lg tb ?_))
  refine sBs' tb (bysC []) ?_ (hkl := bysC_k _)
  intro v1 w1 ho1 hs1 hx1
  try (first | refine gl tb ?_ | refine gg tb ?_ | refine ll tb ?_ | refine lg tb ?_); repeat ((first | refine G.condT rfl ?_ | refine G.condF rfl ?_ | refine sFa tb ?_ | refine sLd tb ?_ | refine sLa tb ?_ | refine sLen tb ?_ | refine sFd tb ?_ | refine sBd tb ?_ | refine sBa tb ?_); try (first | refine gl tb ?_ | refine gg tb ?_ | refine ll tb ?_ | refine lg tb ?_))
  refine sApb tb ho1 (hv.to hx1) ?_
  intro v2 w2 ho2 hg2
  have hx2 : Ext w w2 := hg2.below _ hx1
  rw [List.nil_append] at ho2
  refine sBs' tb (bysC marksB) ?_ (hkl := bysC_k _)
  intro v3 w3 ho3 hs3 hx3
  have hx23 := hx2.trans hx3
  refine sApb tb (ho2.to hx3) ho3.sli ?_ (hB := hx23.size) (hl := by simp only [marksB, List.length_cons, List.length_nil]; omega)
  intro v4 w4 ho4 hg4
  try (first | refine gl tb ?_ | refine gg tb ?_ | refine ll tb ?_ | refine lg tb ?_); repeat ((first | refine G.condT rfl ?_ | refine G.condF rfl ?_ | refine sFa tb ?_ | refine sLd tb ?_ | refine sLa tb ?_ | refine sLen tb ?_ | refine sFd tb ?_ | refine sBd tb ?_ | refine sBa tb ?_); try (first | refine gl tb ?_ | refine gg tb ?_ | refine ll tb ?_ | refine lg tb ?_))
  rw [bysC_len]
  refine GL.cons (Step.sliceVh tb xs.length rfl (Op1.of rfl (by first | exact fun _ => rfl | exact fun h => h | exact fun h => bL h | exact fun h => bL (bL h) | exact fun h => bL (bL (bL h)))) (Op1.of rfl (by first | exact fun _ => rfl | exact fun h => h | exact fun h => bL h | exact fun h => bL (bL h) | exact fun h => bL (bL (bL h)))) rfl rfl (fun _ => ⟨_, ho4.sli⟩) (fun _ => ⟨rfl, by rw [bysC_len]; simp⟩) rfl ?_)
  try (first | refine gl tb ?_ | refine gg tb ?_ | refine ll tb ?_ | refine lg tb ?_); repeat ((first | refine G.condT rfl ?_ | refine G.condF rfl ?_ | refine sFa tb ?_ | refine sLd tb ?_ | refine sLa tb ?_ | refine sLen tb ?_ | refine sFd tb ?_ | refine sBd tb ?_ | refine sBa tb ?_); try (first | refine gl tb ?_ | refine gg tb ?_ | refine ll tb ?_ | refine lg tb ?_))
  refine G.ret1 rfl rfl rfl rfl ?_
  exact ⟨v4, rfl, ho4, hg4.below _ hx23⟩

theorem intactB_ok (u v : Value) (xs : List UInt8) (w0 w : World) (hv : By w0 v xs) (hn : xs.length ≤ 100000) (hx : Ext w0 w) (ho : BO w w0.heap.size u (xs ++ marksB)) :
    Ret Tryd.prog 36 ⟨[subS u 1 0 xs.length, v]⟩ w fun r w' => r = .bool true ∧ Grew w0.heap.size u w w' := by
  have hl4 : (xs ++ marksB).length = xs.length + 4 := by simp [marksB]
  have hlm : (bysC (xs ++ marksB)).length = xs.length + 4 := by rw [bysC_len, hl4]
  have hv1 := hv.to hx
  have hxz := hx.size
  refine ret_of_G Tryd.func36 rfl Tryd.ntmps36 rfl ?_
  simp only [argEnv]
  try (first | refine gl tb ?_ | refine gg tb ?_ | refine ll tb ?_ | refine lg tb ?_); repeat ((first | refine G.condT rfl ?_ | refine G.condF rfl ?_ | refine sFa tb ?_ | refine sLd tb ?_ | refine sLa tb ?_ | refine sLen tb ?_ | refine sFd tb ?_ | refine sBd tb ?_ | refine sBa tb ?_); try (first | refine gl tb ?_ | refine gg tb ?_ | refine ll tb ?_ | refine lg tb ?_))
  rw [bysC_len]
  refine sAd tb ?_
  refine GL.cons (Step.sliceUp tb xs.length rfl (Op1.of rfl (by first | exact fun _ => rfl | exact fun h => h | exact fun h => bL h | exact fun h => bL (bL h) | exact fun h => bL (bL (bL h)))) (Op1.of rfl (by first | exact fun _ => rfl | exact fun h => h | exact fun h => bL h | exact fun h => bL (bL h) | exact fun h => bL (bL (bL h)))) rfl rfl ⟨_, ho.sli⟩ (fun _ => by rw [hlm]; omega) rfl ?_)
  try (first | refine gl tb ?_ | refine gg tb ?_ | refine ll tb ?_ | refine lg tb ?_); repeat ((first | refine G.condT rfl ?_ | refine G.condF rfl ?_ | refine sFa tb ?_ | refine sLd tb ?_ | refine sLa tb ?_ | refine sLen tb ?_ | refine sFd tb ?_ | refine sBd tb ?_ | refine sBa tb ?_); try (first | refine gl tb ?_ | refine gg tb ?_ | refine ll tb ?_ | refine lg tb ?_))
  refine sByS tb ho.sli ?_
  try (first | refine gl tb ?_ | refine gg tb ?_ | refine ll tb ?_ | refine lg tb ?_); repeat ((first | refine G.condT rfl ?_ | refine G.condF rfl ?_ | refine sFa tb ?_ | refine sLd tb ?_ | refine sLa tb ?_ | refine sLen tb ?_ | refine sFd tb ?_ | refine sBd tb ?_ | refine sBa tb ?_); try (first | refine gl tb ?_ | refine gg tb ?_ | refine ll tb ?_ | refine lg tb ?_))
  refine sByS tb hv1 ?_
  refine sCat tb ?_
  try (first | refine gl tb ?_ | refine gg tb ?_ | refine ll tb ?_ | refine lg tb ?_); repeat ((first | refine G.condT rfl ?_ | refine G.condF rfl ?_ | refine sFa tb ?_ | refine sLd tb ?_ | refine sLa tb ?_ | refine sLen tb ?_ | refine sFd tb ?_ | refine sBd tb ?_ | refine sBa tb ?_); try (first | refine gl tb ?_ | refine gg tb ?_ | refine ll tb ?_ | refine lg tb ?_))
  have e : (xs ++ marksB = xs ++ [201, 202, 203, 204]) = True := by simp [marksB]
  rw [show decide (xs ++ marksB = xs ++ [201, 202, 203, 204]) = true from decide_eq_true (by rfl)]
  refine (G.loop (fun k : Nat => [(5, none, u), (6, none, .bool true), (7, none, .int .i64 k)]) (fun k w' => Grew w0.heap.size u w w' ∧ k ≤ xs.length + 4 ∧ ∃ ys, Owns w' w0.heap.size u 5 1 ys ∧ ys.length = xs.length + 4) (fun k => xs.length + 4 - k) 0 (by repeat (first | exact Sub.nil _ | refine Sub.cons rfl ?_)) ⟨Grew.refl _ _ _, by omega, _, ho, hlm⟩ ?_)
  rintro k w3 ⟨hg3, hk, ys, ho3, hxl⟩
  try (first | refine gl tb ?_ | refine gg tb ?_ | refine ll tb ?_ | refine lg tb ?_); repeat ((first | refine G.condT rfl ?_ | refine G.condF rfl ?_ | refine sFa tb ?_ | refine sLd tb ?_ | refine sLa tb ?_ | refine sLen tb ?_ | refine sFd tb ?_ | refine sBd tb ?_ | refine sBa tb ?_); try (first | refine gl tb ?_ | refine gg tb ?_ | refine ll tb ?_ | refine lg tb ?_))
  first | refine G.condD rfl (fun hc => ?_) (fun hc => ?_) | refine G.condN rfl (fun hc => ?_) (fun hc => ?_) | refine G.cond rfl (fun hc => ?_) (fun hc => ?_)
  · have hlt : k < ys.length := by omega
    try (first | refine gl tb ?_ | refine gg tb ?_ | refine ll tb ?_ | refine lg tb ?_); repeat ((first | refine G.condT rfl ?_ | refine G.condF rfl ?_ | refine sFa tb ?_ | refine sLd tb ?_ | refine sLa tb ?_ | refine sLen tb ?_ | refine sFd tb ?_ | refine sBd tb ?_ | refine sBa tb ?_); try (first | refine gl tb ?_ | refine gg tb ?_ | refine ll tb ?_ | refine lg tb ?_))
    refine sIa tb k ?_
    refine sStR tb (j := k) ho3 hlt ?_
    intro w5 ho5 hg5
    try (first | refine gl tb ?_ | refine gg tb ?_ | refine ll tb ?_ | refine lg tb ?_); repeat ((first | refine G.condT rfl ?_ | refine G.condF rfl ?_ | refine sFa tb ?_ | refine sLd tb ?_ | refine sLa tb ?_ | refine sLen tb ?_ | refine sFd tb ?_ | refine sBd tb ?_ | refine sBa tb ?_); try (first | refine gl tb ?_ | refine gg tb ?_ | refine ll tb ?_ | refine lg tb ?_))
    refine sAd tb ?_
    try (first | refine gl tb ?_ | refine gg tb ?_ | refine ll tb ?_ | refine lg tb ?_); repeat ((first | refine G.condT rfl ?_ | refine G.condF rfl ?_ | refine sFa tb ?_ | refine sLd tb ?_ | refine sLa tb ?_ | refine sLen tb ?_ | refine sFd tb ?_ | refine sBd tb ?_ | refine sBa tb ?_); try (first | refine gl tb ?_ | refine gg tb ?_ | refine ll tb ?_ | refine lg tb ?_))
    exact G.lp (k + 1) (by repeat (first | exact Sub.nil _ | refine Sub.cons rfl ?_)) ⟨hg3.trans hg5, by omega, _, ho5, by rw [List.length_set]; exact hxl⟩ (by omega)
  · try (first | refine gl tb ?_ | refine gg tb ?_ | refine ll tb ?_ | refine lg tb ?_); repeat ((first | refine G.condT rfl ?_ | refine G.condF rfl ?_ | refine sFa tb ?_ | refine sLd tb ?_ | refine sLa tb ?_ | refine sLen tb ?_ | refine sFd tb ?_ | refine sBd tb ?_ | refine sBa tb ?_); try (first | refine gl tb ?_ | refine gg tb ?_ | refine ll tb ?_ | refine lg tb ?_))
    refine G.ret1 rfl rfl rfl rfl ?_
    exact ⟨rfl, hg3⟩

theorem readT_inv {l s r : List UInt8} (h : readT l = some (s, r)) : l = encT s ++ r := by
  unfold readT at h
  split at h
  · rename_i a b t
    split at h
    · rename_i hle
      simp only [Option.some.injEq, Prod.mk.injEq] at h
      obtain ⟨hs, hr⟩ := h
      have ha := a.toNat_lt
      have hb := b.toNat_lt
      have hl : s.length = a.toNat * 256 + b.toNat := by rw [← hs, List.length_take]; omega
      have e1 : byI ((s.length : Int) / 2 ^ 8) = a := by
        rw [← UInt8.toNat_inj]
        have := byI_int ((s.length : Int) / 2 ^ 8)
        rw [hl, show (2 : Int) ^ 8 = 256 from rfl] at this
        rw [hl, show (2 : Int) ^ 8 = 256 from rfl]
        omega
      have e2 : byI (s.length : Int) = b := by
        rw [← UInt8.toNat_inj]
        have := byI_int (s.length : Int)
        rw [hl] at this ⊢
        omega
      unfold encT
      rw [e1, e2, ← hs, ← hr]
      simp
    · cases h
  · cases h
theorem readN_inv : ∀ {n : Nat} {l : List UInt8} {ls : List Lab} {r : List UInt8}, readN n l = some (ls, r) → l = ls.flatMap encX ++ r ∧ ls.length = n
  | 0, l, ls, r, h => by
    simp only [readN, Option.some.injEq, Prod.mk.injEq] at h
    obtain ⟨rfl, rfl⟩ := h
    exact ⟨rfl, rfl⟩
  | n + 1, l, ls, r, h => by
    simp only [readN] at h
    split at h
    · cases h
    · rename_i a l1 h1
      split at h
      · cases h
      · rename_i b l2 h2
        split at h
        · cases h
        · rename_i ls2 r2 h3
          simp only [Option.some.injEq, Prod.mk.injEq] at h
          obtain ⟨rfl, rfl⟩ := h
          obtain ⟨e, hl⟩ := readN_inv h3
          rw [readT_inv h1, readT_inv h2, e]
          exact ⟨by simp [encX, List.append_assoc], by simp [hl]⟩
theorem readL_inv {raw : List UInt8} {ls : List Lab} (h : readL raw = some ls) : raw = encL ls ∧ rightB ls = true := by
  cases raw with
  | nil => cases h
  | cons c r =>
    rw [readL_fin] at h
    cases hn : readN c.toNat r with
    | none => rw [hn] at h; cases h
    | some x =>
      obtain ⟨l, rest⟩ := x
      rw [hn] at h
      simp only [finR] at h
      split at h
      · cases h
      · rename_i hc
        cases h
        simp only [Bool.or_eq_true, decide_eq_true_eq, Bool.not_eq_true', not_or, Bool.not_eq_false] at hc
        obtain ⟨e, hl⟩ := readN_inv hn
        have hr : rest = [] := List.eq_nil_of_length_eq_zero (by omega)
        subst hr
        refine ⟨?_, hc.2⟩
        have e1 : byI (ls.length : Int) = c := by
          rw [hl, ← UInt8.toNat_inj]; exact byI_nat c.toNat_lt
        unfold encL
        rw [e1, e, List.append_nil]

theorem read_law (v0 : Value) (raw0 : List UInt8) (w : World) (h0 : By w v0 raw0) (hT : Tabs w) :
    Ret Tryd.prog 8 ⟨[v0]⟩ w fun r w' => r = .bool true ∧ Ext w w' := by
  refine ret_of_G Tryd.func8 rfl Tryd.ntmps8 rfl ?_
  simp only [argEnv]
  try (first | refine gl tb ?_ | refine gg tb ?_ | refine ll tb ?_ | refine lg tb ?_); repeat ((first | refine G.condT rfl ?_ | refine G.condF rfl ?_ | refine sFa tb ?_ | refine sLd tb ?_ | refine sLa tb ?_ | refine sLen tb ?_ | refine sFd tb ?_ | refine sBd tb ?_ | refine sBa tb ?_); try (first | refine gl tb ?_ | refine gg tb ?_ | refine ll tb ?_ | refine lg tb ?_))
  rw [bysC_len]
  try (first | refine gl tb ?_ | refine gg tb ?_ | refine ll tb ?_ | refine lg tb ?_); repeat ((first | refine G.condT rfl ?_ | refine G.condF rfl ?_ | refine sFa tb ?_ | refine sLd tb ?_ | refine sLa tb ?_ | refine sLen tb ?_ | refine sFd tb ?_ | refine sBd tb ?_ | refine sBa tb ?_); try (first | refine gl tb ?_ | refine gg tb ?_ | refine ll tb ?_ | refine lg tb ?_))
  refine G.join (fun x : Value => [(0, none, x)]) (fun x w' => w' = w ∧ ∃ raw, By w x raw ∧ raw.length ≤ 4000) ?_ ?_
  · rintro v w_ ⟨rfl, raw, hv, hn⟩
    clear h0
    try (first | refine gl tb ?_ | refine gg tb ?_ | refine ll tb ?_ | refine lg tb ?_); repeat ((first | refine G.condT rfl ?_ | refine G.condF rfl ?_ | refine sFa tb ?_ | refine sLd tb ?_ | refine sLa tb ?_ | refine sLen tb ?_ | refine sFd tb ?_ | refine sBd tb ?_ | refine sBa tb ?_); try (first | refine gl tb ?_ | refine gg tb ?_ | refine ll tb ?_ | refine lg tb ?_))
    refine sCall c33 (lendB_ok v raw w_ hv (by omega)) ?_
    rintro _ w1 ⟨u, rfl, hu, hx1⟩
    have hsub : By w1 (subS u 1 0 raw.length) raw := by
      have := By.sub hu.sli (Nat.zero_le raw.length) (by simp)
      rwa [List.drop_zero, Nat.sub_zero, List.take_left] at this
    try (first | refine gl tb ?_ | refine gg tb ?_ | refine ll tb ?_ | refine lg tb ?_); repeat ((first | refine G.condT rfl ?_ | refine G.condF rfl ?_ | refine sFa tb ?_ | refine sLd tb ?_ | refine sLa tb ?_ | refine sLen tb ?_ | refine sFd tb ?_ | refine sBd tb ?_ | refine sBa tb ?_); try (first | refine gl tb ?_ | refine gg tb ?_ | refine ll tb ?_ | refine lg tb ?_))
    refine sCall c34 (read_ok (subS u 1 0 raw.length) raw w1 hsub (hT.to hx1)) ?_
    rintro r2 w2 ⟨a, hx2, hr2⟩
    have hx02 := hx1.trans hx2
    have hub := hu.to hx2
    have hv2 := hv.to hx02
    cases hrd : readL raw with
    | none =>
      rw [hrd] at hr2
      obtain ⟨rfl, ha⟩ := hr2
      try (first | refine gl tb ?_ | refine gg tb ?_ | refine ll tb ?_ | refine lg tb ?_); repeat ((first | refine G.condT rfl ?_ | refine G.condF rfl ?_ | refine sFa tb ?_ | refine sLd tb ?_ | refine sLa tb ?_ | refine sLen tb ?_ | refine sFd tb ?_ | refine sBd tb ?_ | refine sBa tb ?_); try (first | refine gl tb ?_ | refine gg tb ?_ | refine ll tb ?_ | refine lg tb ?_))
      refine sCall c35 (refRead_ok v raw w2 hv2 (by omega)) ?_
      rintro r3 w3 ⟨b, hx3, hr3⟩
      rw [hrd] at hr3
      obtain ⟨rfl, hb⟩ := hr3
      have hx03 := hx02.trans hx3
      have hu3 := hub.to hx3
      try (first | refine gl tb ?_ | refine gg tb ?_ | refine ll tb ?_ | refine lg tb ?_); repeat ((first | refine G.condT rfl ?_ | refine G.condF rfl ?_ | refine sFa tb ?_ | refine sLd tb ?_ | refine sLa tb ?_ | refine sLen tb ?_ | refine sFd tb ?_ | refine sBd tb ?_ | refine sBa tb ?_); try (first | refine gl tb ?_ | refine gg tb ?_ | refine ll tb ?_ | refine lg tb ?_))
      refine sCall c36 (intactB_ok u v raw w_ w3 hv (by omega) hx03 hu3) ?_
      rintro _ w4 ⟨rfl, hg4⟩
      have hx04 : Ext w_ w4 := hg4.below _ hx03
      have ha4 := ((ha.to hx3).grew hg4 (hu.apart ha)).sli
      have hb4 := (hb.grew hg4 (hub.apart hb)).sli
      try (first | refine gl tb ?_ | refine gg tb ?_ | refine ll tb ?_ | refine lg tb ?_); repeat ((first | refine G.condT rfl ?_ | refine G.condF rfl ?_ | refine sFa tb ?_ | refine sLd tb ?_ | refine sLa tb ?_ | refine sLen tb ?_ | refine sFd tb ?_ | refine sBd tb ?_ | refine sBa tb ?_); try (first | refine gl tb ?_ | refine gg tb ?_ | refine ll tb ?_ | refine lg tb ?_))
      refine sCallx c21 (fun hc => keepLabels_ok a b [] [] w4 ha4 hb4) ?_
      intro w5 hx5
      rw [show eqN [] [] = true by decide]
      have hx05 := hx04.trans hx5
      try (first | refine gl tb ?_ | refine gg tb ?_ | refine ll tb ?_ | refine lg tb ?_); repeat ((first | refine G.condT rfl ?_ | refine G.condF rfl ?_ | refine sFa tb ?_ | refine sLd tb ?_ | refine sLa tb ?_ | refine sLen tb ?_ | refine sFd tb ?_ | refine sBd tb ?_ | refine sBa tb ?_); try (first | refine gl tb ?_ | refine gg tb ?_ | refine ll tb ?_ | refine lg tb ?_))
      refine G.regionG (Ext w5) mixed (Ext.drew w5) ?_
      have hx6 := Ext.drew w5
      generalize w5.drew = w6 at hx6 ⊢
      refine GD.steps ([(0, true), (1, true), (2, true), (3, true), (6, true), (7, true), (4, false), (5, false), (8, true), (9, true), (10, true), (11, false), (12, true), (13, true), (14, true), (15, false), (16, true), (17, true)]) (by kernel_rfl) (by kernel_rfl) rfl ?_
      try (refine mm tb ?_); repeat ((first | refine dFa tb ?_ | refine dLd tb ?_ | refine dLa tb ?_ | refine dLen tb ?_ | refine dFd tb ?_); try (refine mm tb ?_))
      refine GM.read (fun w' hS => Step.off (v := S []) rfl (of_decide_eq_true rfl) rfl ⟨rfl, rfl⟩) rfl rfl ?_
      refine GM.eff (Step.off (v := .slice none 0 0) rfl (of_decide_eq_true rfl) rfl ⟨hx6, ?_⟩)
      refine GM.eff (Step.off (v := S []) rfl (of_decide_eq_true rfl) rfl ⟨hx6, ?_⟩)
      try (refine mm tb ?_); repeat ((first | refine dFa tb ?_ | refine dLd tb ?_ | refine dLa tb ?_ | refine dLen tb ?_ | refine dFd tb ?_); try (refine mm tb ?_))
      refine GM.eff (Step.off (v := .bool false) rfl (of_decide_eq_true rfl) rfl ⟨hx6, ?_⟩)
      try (refine mm tb ?_); repeat ((first | refine dFa tb ?_ | refine dLd tb ?_ | refine dLa tb ?_ | refine dLen tb ?_ | refine dFd tb ?_); try (refine mm tb ?_))
      refine GM.eff (Step.callX rfl rfl (by repeat (first | exact OpL.nil | refine OpL.cons (Op1.of rfl (by first | exact fun _ => rfl | exact fun h => h | exact fun h => bL h | exact fun h => bL (bL h) | exact fun h => bL (bL (bL h)))) ?_)) c15 rfl (fun hc => wakes_ok w6 (hT.to (hx05.trans hx6))) ?_)
      intro w7 hx7
      refine ⟨hx6.trans hx7, ?_⟩
      try (refine mm tb ?_); repeat ((first | refine dFa tb ?_ | refine dLd tb ?_ | refine dLa tb ?_ | refine dLen tb ?_ | refine dFd tb ?_); try (refine mm tb ?_))
      refine GM.nil ?_
      refine GD.done (by kernel_rfl) ?_
      try (first | refine gl tb ?_ | refine gg tb ?_ | refine ll tb ?_ | refine lg tb ?_); repeat ((first | refine G.condT rfl ?_ | refine G.condF rfl ?_ | refine sFa tb ?_ | refine sLd tb ?_ | refine sLa tb ?_ | refine sLen tb ?_ | refine sFd tb ?_ | refine sBd tb ?_ | refine sBa tb ?_); try (first | refine gl tb ?_ | refine gg tb ?_ | refine ll tb ?_ | refine lg tb ?_))
      refine G.ret1 rfl rfl rfl rfl ?_
      exact ⟨rfl, hx05.trans (hx6.trans hx7)⟩
    | some ls =>
      rw [hrd] at hr2
      obtain ⟨rfl, ha, hz⟩ := hr2
      obtain ⟨hraw, hright⟩ := readL_inv hrd
      obtain ⟨hsm, -, -, -⟩ := right_small hright
      try (first | refine gl tb ?_ | refine gg tb ?_ | refine ll tb ?_ | refine lg tb ?_); repeat ((first | refine G.condT rfl ?_ | refine G.condF rfl ?_ | refine sFa tb ?_ | refine sLd tb ?_ | refine sLa tb ?_ | refine sLen tb ?_ | refine sFd tb ?_ | refine sBd tb ?_ | refine sBa tb ?_); try (first | refine gl tb ?_ | refine gg tb ?_ | refine ll tb ?_ | refine lg tb ?_))
      refine sCall c35 (refRead_ok v raw w2 hv2 (by omega)) ?_
      rintro r3 w3 ⟨b, hx3, hr3⟩
      rw [hrd] at hr3
      obtain ⟨rfl, hb⟩ := hr3
      have hx03 := hx02.trans hx3
      have hu3 := hub.to hx3
      try (first | refine gl tb ?_ | refine gg tb ?_ | refine ll tb ?_ | refine lg tb ?_); repeat ((first | refine G.condT rfl ?_ | refine G.condF rfl ?_ | refine sFa tb ?_ | refine sLd tb ?_ | refine sLa tb ?_ | refine sLen tb ?_ | refine sFd tb ?_ | refine sBd tb ?_ | refine sBa tb ?_); try (first | refine gl tb ?_ | refine gg tb ?_ | refine ll tb ?_ | refine lg tb ?_))
      refine sCall c36 (intactB_ok u v raw w_ w3 hv (by omega) hx03 hu3) ?_
      rintro _ w4 ⟨rfl, hg4⟩
      have hx04 : Ext w_ w4 := hg4.below _ hx03
      have ha4 := ((ha.to hx3).grew hg4 (hu.apart ha)).sli
      have hb4 := (hb.grew hg4 (hub.apart hb)).sli
      try (first | refine gl tb ?_ | refine gg tb ?_ | refine ll tb ?_ | refine lg tb ?_); repeat ((first | refine G.condT rfl ?_ | refine G.condF rfl ?_ | refine sFa tb ?_ | refine sLd tb ?_ | refine sLa tb ?_ | refine sLen tb ?_ | refine sFd tb ?_ | refine sBd tb ?_ | refine sBa tb ?_); try (first | refine gl tb ?_ | refine gg tb ?_ | refine ll tb ?_ | refine lg tb ?_))
      refine sCallx c21 (fun hc => keepLabels_ok a b ls ls w4 ha4 hb4) ?_
      intro w5 hx5
      rw [show eqN ls ls = true by simp [eqN]]
      have hx05 := hx04.trans hx5
      have ha5 := ha4.to hx5
      have hv5 := hv.to hx05
      try (first | refine gl tb ?_ | refine gg tb ?_ | refine ll tb ?_ | refine lg tb ?_); repeat ((first | refine G.condT rfl ?_ | refine G.condF rfl ?_ | refine sFa tb ?_ | refine sLd tb ?_ | refine sLa tb ?_ | refine sLen tb ?_ | refine sFd tb ?_ | refine sBd tb ?_ | refine sBa tb ?_); try (first | refine gl tb ?_ | refine gg tb ?_ | refine ll tb ?_ | refine lg tb ?_))
      refine G.regionG (Ext w5) mixed (Ext.drew w5) ?_
      have hx6 := Ext.drew w5
      generalize w5.drew = w6 at hx6 ⊢
      refine GD.steps ([(0, true), (1, true), (2, true), (3, true), (6, true), (7, true), (4, false), (5, false), (8, true), (9, true), (10, true), (11, false), (12, true), (13, true), (14, true), (15, false), (16, true), (17, true)]) (by kernel_rfl) (by kernel_rfl) rfl ?_
      try (refine mm tb ?_); repeat ((first | refine dFa tb ?_ | refine dLd tb ?_ | refine dLa tb ?_ | refine dLen tb ?_ | refine dFd tb ?_); try (refine mm tb ?_))
      refine GM.read (fun w' hS => Step.bytesS tb rfl (Op1.of rfl (by first | exact fun _ => rfl | exact fun h => h | exact fun h => bL h | exact fun h => bL (bL h) | exact fun h => bL (bL (bL h)))) rfl rfl rfl (fun _ => (hv5).to hS) rfl ⟨rfl, rfl⟩) rfl rfl ?_
      refine GM.eff (Step.on rfl rfl (Step.callO rfl rfl (by repeat (first | exact OpL.nil | refine OpL.cons (Op1.of rfl (by first | exact fun _ => rfl | exact fun h => h | exact fun h => bL h | exact fun h => bL (bL h) | exact fun h => bL (bL (bL h)))) ?_)) c37 rfl (bytes_ok a ls w6 (ha5.to hx6) hsm) ?_))
      rintro r7 w7 ⟨hr7, hx7⟩
      have hx7 := hx6.trans hx7
      refine ⟨hx7, ?_⟩
      refine eByS tb (fun _ => hr7.sli) hx7 ?_
      rw [← hraw]
      try (refine mm tb ?_); repeat ((first | refine dFa tb ?_ | refine dLd tb ?_ | refine dLa tb ?_ | refine dLen tb ?_ | refine dFd tb ?_); try (refine mm tb ?_))
      refine GM.eff (Step.callX rfl rfl (by repeat (first | exact OpL.nil | refine OpL.cons (Op1.of rfl (by first | exact fun _ => rfl | exact fun h => h | exact fun h => bL h | exact fun h => bL (bL h) | exact fun h => bL (bL (bL h)))) ?_)) c22 rfl (fun hc => lright_ok a ls w7 (ha5.to hx7) hz (hT.to (hx05.trans hx7))) ?_)
      intro w8 hx8
      have hx8 := hx7.trans hx8
      refine ⟨hx8, ?_⟩
      rw [hright]
      try (refine mm tb ?_); repeat ((first | refine dFa tb ?_ | refine dLd tb ?_ | refine dLa tb ?_ | refine dLen tb ?_ | refine dFd tb ?_); try (refine mm tb ?_))
      refine GM.eff (Step.callX rfl rfl (by repeat (first | exact OpL.nil | refine OpL.cons (Op1.of rfl (by first | exact fun _ => rfl | exact fun h => h | exact fun h => bL h | exact fun h => bL (bL h) | exact fun h => bL (bL (bL h)))) ?_)) c15 rfl (fun hc => wakes_ok w8 (hT.to (hx05.trans hx8))) ?_)
      intro w9 hx9
      have hx9 := hx8.trans hx9
      refine ⟨hx9, ?_⟩
      try (refine mm tb ?_); repeat ((first | refine dFa tb ?_ | refine dLd tb ?_ | refine dLa tb ?_ | refine dLen tb ?_ | refine dFd tb ?_); try (refine mm tb ?_))
      refine GM.nil ?_
      refine GD.done (by kernel_rfl) ?_
      try (first | refine gl tb ?_ | refine gg tb ?_ | refine ll tb ?_ | refine lg tb ?_); repeat ((first | refine G.condT rfl ?_ | refine G.condF rfl ?_ | refine sFa tb ?_ | refine sLd tb ?_ | refine sLa tb ?_ | refine sLen tb ?_ | refine sFd tb ?_ | refine sBd tb ?_ | refine sBa tb ?_); try (first | refine gl tb ?_ | refine gg tb ?_ | refine ll tb ?_ | refine lg tb ?_))
      refine G.ret1 rfl rfl rfl rfl ?_
      exact ⟨by simp, hx05.trans hx9⟩
  · first | refine G.condD rfl (fun hc => ?_) (fun hc => ?_) | refine G.condN rfl (fun hc => ?_) (fun hc => ?_) | refine G.cond rfl (fun hc => ?_) (fun hc => ?_)
    · try (first | refine gl tb ?_ | refine gg tb ?_ | refine ll tb ?_ | refine lg tb ?_); repeat ((first | refine G.condT rfl ?_ | refine G.condF rfl ?_ | refine sFa tb ?_ | refine sLd tb ?_ | refine sLa tb ?_ | refine sLen tb ?_ | refine sFd tb ?_ | refine sBd tb ?_ | refine sBa tb ?_); try (first | refine gl tb ?_ | refine gg tb ?_ | refine ll tb ?_ | refine lg tb ?_))
      refine GL.cons (Step.sliceVh tb 4000 rfl (Op1.of rfl (by first | exact fun _ => rfl | exact fun h => h | exact fun h => bL h | exact fun h => bL (bL h) | exact fun h => bL (bL (bL h)))) (Op1.of rfl (by first | exact fun _ => rfl | exact fun h => h | exact fun h => bL h | exact fun h => bL (bL h) | exact fun h => bL (bL (bL h)))) rfl rfl (fun _ => ⟨_, h0⟩) (fun _ => ⟨rfl, by rw [bysC_len]; omega⟩) rfl ?_)
      try (first | refine gl tb ?_ | refine gg tb ?_ | refine ll tb ?_ | refine lg tb ?_); repeat ((first | refine G.condT rfl ?_ | refine G.condF rfl ?_ | refine sFa tb ?_ | refine sLd tb ?_ | refine sLa tb ?_ | refine sLen tb ?_ | refine sFd tb ?_ | refine sBd tb ?_ | refine sBa tb ?_); try (first | refine gl tb ?_ | refine gg tb ?_ | refine ll tb ?_ | refine lg tb ?_))
      have hsub := By.sub h0 (a := 0) (b := 4000) (by omega) (by omega)
      exact G.met _ (by repeat (first | exact Sub.nil _ | refine Sub.cons rfl ?_)) ⟨rfl, _, hsub, by rw [List.length_take]; omega⟩
    · try (first | refine gl tb ?_ | refine gg tb ?_ | refine ll tb ?_ | refine lg tb ?_); repeat ((first | refine G.condT rfl ?_ | refine G.condF rfl ?_ | refine sFa tb ?_ | refine sLd tb ?_ | refine sLa tb ?_ | refine sLen tb ?_ | refine sFd tb ?_ | refine sBd tb ?_ | refine sBa tb ?_); try (first | refine gl tb ?_ | refine gg tb ?_ | refine ll tb ?_ | refine lg tb ?_))
      exact G.met _ (by repeat (first | exact Sub.nil _ | refine Sub.cons rfl ?_)) ⟨rfl, _, h0, by omega⟩
end Go.Proofs.YtfffblopkaandaaDoor
