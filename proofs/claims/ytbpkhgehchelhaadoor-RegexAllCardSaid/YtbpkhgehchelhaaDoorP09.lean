/- Part of the proof of a statement about the given program. -/
import Derived.Test.YtbpkhgehchelhaaDoorP08
set_option linter.unusedSimpArgs false
set_option linter.unusedVariables false
set_option linter.unusedSectionVars false
section
open Go Go.Vg Go.RowKit Go.Proofs Go.Proofs.YtbpkhgehchelhaaDoor
namespace Go.Proofs.YtbpkhgehchelhaaDoor

def SizeR (t : Rx.T) : Prop := ∀ (w : World) (A : Nat → Prop) (u : List Value), Nd w A t u → Ret Tryd.prog 38 ⟨[.agg ⟨u⟩]⟩ w fun r w' => r = .int .i64 (Rx.szC t : Nat) ∧ Ext w w'
theorem szL_snoc : ∀ (l : List Rx.T) (t : Rx.T), Rx.szL (l ++ [t]) = Rx.szL l + Rx.szC t
  | [], t => by simp [Rx.szL]
  | x :: l, t => by
    have := szL_snoc l t
    simp only [List.cons_append, Rx.szL] at this ⊢
    omega
theorem szL_le : ∀ l : List Rx.T, Rx.szL l ≤ l.length * 1000000
  | [] => by simp [Rx.szL]
  | t :: l => by
    have h1 := szL_le l
    have h2 := Rx.szC_le t
    simp only [Rx.szL, List.length_cons]
    omega
set_option maxHeartbeats 4000000 in
theorem size4 (ks : List Rx.T) (ih : ∀ t ∈ ks, SizeR t) (w : World) (A : Nat → Prop) (la : Option Addr) (ln lc : Nat) (neg : Bool) (kv : Value) (n lo hi : Int) (lz : Bool) (us : List (List Value)) (hk : Sli w kv 8 us) (hl : us.length = ks.length) (hkl : ks.length ≤ 1000)
    (hkids : ∀ (i : Nat) (t : Rx.T) (u : List Value), ks[i]? = some t → us[i]? = some u → Nd w A t u) :
    Ret Tryd.prog 38 ⟨[.agg ⟨ndC 4 (.slice la ln lc) neg kv n lo hi lz⟩]⟩ w fun r w' => r = .int .i64 (Rx.cutN (Rx.szL ks) : Nat) ∧ Ext w w' := by
  obtain ⟨ka, kc, hkv, -⟩ := hk.len
  obtain ⟨kn, hkn⟩ : ∃ kn, kn = us.length := ⟨_, rfl⟩
  rw [← hkn] at hkv
  subst hkv
  refine ret_of_G Tryd.func38 rfl Tryd.ntmps38 rfl ?_
  simp only [argEnv]
  refine rn ?_
  refine sBox (us := ndC 4 (.slice la ln lc) neg (.slice ka kn kc) n lo hi lz) (fun W1 hb1 hs1 hx1 => ?_) (hv := rfl)
  refine rn ?_
  refine (G.loop (fun k : Nat => [(1, none, ptr w.heap.size), (3, none, .int .i64 (Rx.szL (ks.take k) : Nat)), (4, none, .int .i64 k)]) (fun k W => Ext w W ∧ Bx W w.heap.size (ndC 4 (.slice la ln lc) neg (.slice ka kn kc) n lo hi lz) ∧ k ≤ ks.length) (fun k => ks.length - k) 0 (by repeat (first | exact Sub.nil _ | refine Sub.cons rfl ?_)) ⟨hx1, hb1, Nat.zero_le _⟩ ?_)
  clear hb1 hs1 hx1
  rintro k W ⟨hx, hb, hkk⟩
  have hkW := hk.to hx
  have hsl := szL_le (ks.take k)
  have htl : (ks.take k).length ≤ 1000 := by rw [List.length_take]; omega
  refine rn ?_
  rw [hl]
  refine rn ?_
  first | refine G.condD rfl (fun hc => ?_) (fun hc => ?_) | refine G.condN rfl (fun hc => ?_) (fun hc => ?_) | refine G.cond rfl (fun hc => ?_) (fun hc => ?_)
  · have hlt : k < ks.length := by omega
    obtain ⟨u, hu⟩ : ∃ u, us[k]? = some u := ⟨_, List.getElem?_eq_getElem (by rw [hl]; exact hlt)⟩
    have hN := (hkids k ks[k] u (List.getElem?_eq_getElem hlt) hu).ext hx
    obtain ⟨k1, la1, ka1, ln1, lc1, kn1, kc1, ng1, n1, lo1, hi1, lz1, hus⟩ := hN.shape.ex
    subst hus
    have hsn : Rx.szL (ks.take (k + 1)) = Rx.szL (ks.take k) + Rx.szC ks[k] := by rw [List.take_succ_eq_append_getElem hlt, szL_snoc]
    have hsc := Rx.szC_le ks[k]
    try (first | refine gl tb ?_ | refine gg tb ?_ | refine ll tb ?_ | refine lg tb ?_); repeat ((first | refine G.condT rfl ?_ | refine G.condF rfl ?_ | refine sFa tb ?_ | refine sLd tb ?_ | refine sLa tb ?_ | refine sLen tb ?_ | refine sFd tb ?_ | refine sBd tb ?_ | refine sIa tb k ?_); try (first | refine gl tb ?_ | refine gg tb ?_ | refine ll tb ?_ | refine lg tb ?_))
    refine sCall c38 (ih ks[k] (List.getElem_mem hlt) W A _ hN) ?_
    rintro _ W2 ⟨rfl, hx2⟩
    have hb := hb.to hx2
    refine rn ?_
    refine sAd tb (r := ((Rx.szL (ks.take (k + 1)) : Nat) : Int)) ?_ (hp := by show IntKind.i64.wrap _ = _; rw [hsn, wrap_i64 (by omega) (by omega)]; omega)
    refine rn ?_
    refine sAd tb (r := ((k + 1 : Nat) : Int)) ?_
    refine rn ?_
    exact G.lp (x := k) (k + 1) (by repeat (first | exact Sub.nil _ | refine Sub.cons rfl ?_)) ⟨hx.trans hx2, hb, hlt⟩ (by omega)
  · have hke : ks.length ≤ k := by omega
    rw [List.take_of_length_le hke]
    refine rn ?_
    first | refine G.condD rfl (fun hc => ?_) (fun hc => ?_) | refine G.condN rfl (fun hc => ?_) (fun hc => ?_) | refine G.cond rfl (fun hc => ?_) (fun hc => ?_)
    · refine rn ?_
      refine G.ret1 rfl rfl rfl rfl ?_
      refine ⟨?_, hx⟩
      have : Rx.cutN (Rx.szL ks) = 1000000 := by unfold Rx.cutN; rw [if_pos (by omega)]
      rw [this]
      rfl
    · refine rn ?_
      refine G.ret1 rfl rfl rfl rfl ?_
      refine ⟨?_, hx⟩
      have : Rx.cutN (Rx.szL ks) = Rx.szL ks := by unfold Rx.cutN; rw [if_neg (by omega)]
      rw [this]
/-- the end: cut -/
theorem cut_if (n : Nat) : Rx.cutN n = if 1000000 < n then 1000000 else n := rfl
set_option maxHeartbeats 4000000 in
theorem sizeR_step (t : Rx.T) (ih : ∀ t' ∈ kidsT t, SizeR t') : SizeR t := by
  intro w A u hT
  cases hT with
  | mk lv kv n us hs hm hn hk hl hkl hkids =>
  obtain ⟨la, lc, hlv, -⟩ := hs.own.sli.len
  generalize ((flat (spansT t)).map inC).length = ln at hlv
  subst hlv
  have hkS := hk.own.sli
  have leaf : ∀ (k : Nat) (neg : Bool) (n lo hi : Int) (lz : Bool), k = 1 ∨ k = 2 ∨ k = 3 → ∀ kv' : Value, (∃ a b c, kv' = .slice a b c) → Ret Tryd.prog 38 ⟨[.agg ⟨ndC k (.slice la ln lc) neg kv' n lo hi lz⟩]⟩ w fun r w' => r = .int .i64 (1 : Nat) ∧ Ext w w' := by
    rintro k neg n lo hi lz hk3 _ ⟨a, b, c, rfl⟩
    rcases hk3 with rfl | rfl | rfl
    · (refine ret_of_G Tryd.func38 rfl Tryd.ntmps38 rfl ?_; simp only [argEnv])
      refine rn ?_
      refine sBox (us := ndC 1 (.slice la ln lc) neg (.slice a b c) n lo hi lz) (fun W1 hb1 hs1 hx1 => ?_) (hv := rfl)
      refine rn ?_
      refine G.ret1 rfl rfl rfl rfl ?_
      exact ⟨rfl, hx1⟩
    · (refine ret_of_G Tryd.func38 rfl Tryd.ntmps38 rfl ?_; simp only [argEnv])
      refine rn ?_
      refine sBox (us := ndC 2 (.slice la ln lc) neg (.slice a b c) n lo hi lz) (fun W1 hb1 hs1 hx1 => ?_) (hv := rfl)
      refine rn ?_
      refine G.ret1 rfl rfl rfl rfl ?_
      exact ⟨rfl, hx1⟩
    · (refine ret_of_G Tryd.func38 rfl Tryd.ntmps38 rfl ?_; simp only [argEnv])
      refine rn ?_
      refine sBox (us := ndC 3 (.slice la ln lc) neg (.slice a b c) n lo hi lz) (fun W1 hb1 hs1 hx1 => ?_) (hv := rfl)
      refine rn ?_
      refine G.ret1 rfl rfl rfl rfl ?_
      exact ⟨rfl, hx1⟩
  obtain ⟨ka, kc, hkv, -⟩ := hkS.len
  obtain ⟨kn, hkn⟩ : ∃ kn, kn = us.length := ⟨_, rfl⟩
  rw [← hkn] at hkv
  subst hkv
  cases t with
  | emp =>
    have := size4 [] (fun t h => by simp at h) w A la ln lc false (.slice ka kn kc) n 0 0 false us hkS hl (by simp) (fun i t u g1 => by simp at g1)
    have e : Rx.szC .emp = Rx.cutN (Rx.szL []) := by simp [Rx.szC, Rx.szL, Rx.cutN]
    rw [e]; exact this
  | set l neg =>
    have := leaf 1 neg n 0 0 false (.inl rfl) (.slice ka kn kc) ⟨_, _, _, rfl⟩
    have e : Rx.szC (.set l neg) = 1 := by simp [Rx.szC]
    rw [e]; exact this
  | bos =>
    have := leaf 2 false n 0 0 false (.inr (.inl rfl)) (.slice ka kn kc) ⟨_, _, _, rfl⟩
    have e : Rx.szC .bos = 1 := by simp [Rx.szC]
    rw [e]; exact this
  | eos =>
    have := leaf 3 false n 0 0 false (.inr (.inr rfl)) (.slice ka kn kc) ⟨_, _, _, rfl⟩
    have e : Rx.szC .eos = 1 := by simp [Rx.szC]
    rw [e]; exact this
  | seq l =>
    have := size4 l ih w A la ln lc false (.slice ka kn kc) n 0 0 false us hkS hl hkl hkids
    have e : Rx.szC (.seq l) = Rx.cutN (Rx.szL l) := by simp [Rx.szC]
    rw [e]; exact this
  | grp m t1 =>
    by_cases hm0 : m = 0
    · subst hm0
      have := size4 [t1] ih w A la ln lc false (.slice ka kn kc) n 0 0 false us hkS hl (by simp) hkids
      have e : Rx.cutN (Rx.szL [t1]) = Rx.szC (.grp 0 t1) := by
        have := Rx.szC_le t1
        simp only [Rx.szL, Rx.szC, if_true]
        unfold Rx.cutN
        rw [if_neg (by omega)]
        rfl
      rw [e] at this
      exact this
    · have hkn6 : kindN (.grp m t1) = 6 := if_neg hm0
      have hsz : Rx.szC (.grp m t1) = Rx.cutN (Rx.szC t1 + 2) := by simp [Rx.szC, hm0]
      rw [hkn6, hsz]
      show Ret Tryd.prog 38 ⟨[.agg ⟨ndC 6 (.slice la ln lc) false (.slice ka kn kc) n 0 0 false⟩]⟩ w _
      obtain ⟨u, hu⟩ : ∃ u, us[0]? = some u := ⟨_, List.getElem?_eq_getElem (by rw [hl]; simp [kidsT])⟩
      have hN := hkids 0 t1 u rfl hu
      obtain ⟨k1, la1, ka1, ln1, lc1, kn1, kc1, ng1, n1, lo1, hi1, lz1, hus⟩ := hN.shape.ex
      subst hus
      have hl1 : us.length = 1 := hl
      have hsc := Rx.szC_le t1
      (refine ret_of_G Tryd.func38 rfl Tryd.ntmps38 rfl ?_; simp only [argEnv])
      refine rn ?_
      refine sBox (us := ndC 6 (.slice la ln lc) false (.slice ka kn kc) n 0 0 false) (fun W1 hb1 hs1 hx1 => ?_) (hv := rfl)
      have hkW := hkS.to hx1
      try (first | refine gl tb ?_ | refine gg tb ?_ | refine ll tb ?_ | refine lg tb ?_); repeat ((first | refine G.condT rfl ?_ | refine G.condF rfl ?_ | refine sFa tb ?_ | refine sLd tb ?_ | refine sLa tb ?_ | refine sLen tb ?_ | refine sFd tb ?_ | refine sBd tb ?_ | refine sIa tb 0 ?_); try (first | refine gl tb ?_ | refine gg tb ?_ | refine ll tb ?_ | refine lg tb ?_))
      refine sCall c38 (ih t1 (by simp [kidsT]) W1 A _ (hN.ext hx1)) ?_
      rintro _ W2 ⟨rfl, hx2⟩
      refine rn ?_
      refine sAd tb (r := ((Rx.szC t1 + 2 : Nat) : Int)) ?_
      refine rn ?_
      first | refine G.condD rfl (fun hc => ?_) (fun hc => ?_) | refine G.condN rfl (fun hc => ?_) (fun hc => ?_) | refine G.cond rfl (fun hc => ?_) (fun hc => ?_)
      · refine rn ?_
        refine G.ret1 rfl rfl rfl rfl ?_
        refine ⟨?_, hx1.trans hx2⟩
        rw [cut_if, if_pos (by omega)]; rfl
      · refine rn ?_
        refine G.ret1 rfl rfl rfl rfl ?_
        refine ⟨?_, hx1.trans hx2⟩
        rw [cut_if, if_neg (by omega)]
  | alt ta tc =>
    have hsz : Rx.szC (.alt ta tc) = Rx.cutN (Rx.szC ta + Rx.szC tc + 2) := by simp [Rx.szC]
    rw [hsz]
    show Ret Tryd.prog 38 ⟨[.agg ⟨ndC 5 (.slice la ln lc) false (.slice ka kn kc) n 0 0 false⟩]⟩ w _
    have hl2 : us.length = 2 := hl
    obtain ⟨ua, hua⟩ : ∃ u, us[0]? = some u := ⟨_, List.getElem?_eq_getElem (by omega)⟩
    obtain ⟨uc, huc⟩ : ∃ u, us[1]? = some u := ⟨_, List.getElem?_eq_getElem (by omega)⟩
    have hNa := hkids 0 ta ua rfl hua
    have hNc := hkids 1 tc uc rfl huc
    obtain ⟨k1, la1, ka1, ln1, lc1, kn1, kc1, ng1, n1, lo1, hi1, lz1, hus⟩ := hNa.shape.ex
    subst hus
    obtain ⟨k2, la2, ka2, ln2, lc2, kn2, kc2, ng2, n2, lo2, hi2, lz2, hus⟩ := hNc.shape.ex
    subst hus
    have hsa := Rx.szC_le ta
    have hsc := Rx.szC_le tc
    (refine ret_of_G Tryd.func38 rfl Tryd.ntmps38 rfl ?_; simp only [argEnv])
    refine rn ?_
    refine sBox (us := ndC 5 (.slice la ln lc) false (.slice ka kn kc) n 0 0 false) (fun W1 hb1 hs1 hx1 => ?_) (hv := rfl)
    have hkW := hkS.to hx1
    have hNa := hNa.ext hx1
    have hNc := hNc.ext hx1
    refine rn ?_
    refine G.regionM [(0, true), (1, true), (2, true), (3, true), (5, true), (6, true), (7, true), (8, true), (4, false), (9, false), (10, true), (11, true), (12, true)] (Ext W1) (by kernel_rfl) (by kernel_rfl) rfl mixed (Ext.drew W1) rfl ?_
    refine rd ?_
    refine dIa tb 0 ?_ (hj := fun _ => ⟨rfl, by omega⟩)
    refine rd ?_
    refine dIa tb 1 ?_ (hj := fun _ => ⟨rfl, by omega⟩)
    refine rd ?_
    refine GM.eff (Step.callX rfl rfl (by repeat (first | exact OpL.nil | refine OpL.cons (Op1.of rfl (by first | exact fun _ => rfl | exact fun h => h | exact fun h => bL h | exact fun h => bL (bL h) | exact fun h => bL (bL (bL h)))) ?_)) c38 rfl (fun hc => ih ta (by simp [kidsT]) _ A _ (hNa.ext (Ext.drew W1))) ?_)
    intro W2 hx2
    have hx2 := (Ext.drew W1).trans hx2
    refine ⟨hx2, ?_⟩
    refine rd ?_
    refine GM.eff (Step.callX rfl rfl (by repeat (first | exact OpL.nil | refine OpL.cons (Op1.of rfl (by first | exact fun _ => rfl | exact fun h => h | exact fun h => bL h | exact fun h => bL (bL h) | exact fun h => bL (bL (bL h)))) ?_)) c38 rfl (fun hc => ih tc (by simp [kidsT]) _ A _ (hNc.ext hx2)) ?_)
    intro W3 hx3
    have hx2 := hx2.trans hx3
    refine ⟨hx2, ?_⟩
    refine rd ?_
    refine dAd tb (r := ((Rx.szC ta + Rx.szC tc : Nat) : Int)) ?_
    refine rd ?_
    refine dAd tb (r := ((Rx.szC ta + Rx.szC tc + 2 : Nat) : Int)) ?_
    refine rd ?_
    refine GM.nil ?_
    refine rn ?_
    first | refine G.condD rfl (fun hc => ?_) (fun hc => ?_) | refine G.condN rfl (fun hc => ?_) (fun hc => ?_) | refine G.cond rfl (fun hc => ?_) (fun hc => ?_)
    · refine rn ?_
      refine G.ret1 rfl rfl rfl rfl ?_
      refine ⟨?_, hx1.trans hx2⟩
      rw [cut_if, if_pos (by omega)]; rfl
    · refine rn ?_
      refine G.ret1 rfl rfl rfl rfl ?_
      refine ⟨?_, hx1.trans hx2⟩
      rw [cut_if, if_neg (by omega)]
  | rep mn mx few plus t1 =>
    have hsz : Rx.szC (.rep mn mx few plus t1) = Rx.cutN (Rx.sizeR (Rx.szC t1) mn mx plus) := by simp [Rx.szC]
    rw [hsz]
    show Ret Tryd.prog 38 ⟨[.agg ⟨ndC 7 (.slice la ln lc) false (.slice ka kn kc) n mn mx few⟩]⟩ w _
    obtain ⟨hn01, hnp, hn1, hmm, -⟩ : (n = 0 ∨ n = 1) ∧ (plus = true → mn = 1 ∧ mx = -1) ∧ (mx < 0 → mx = -1 ∧ (mn = 1 → (n = 0 ↔ plus = true))) ∧ (0 ≤ mx → (mn : Int) ≤ mx) ∧ (1 < mn → n = 1) := hn
    obtain ⟨-, -, hmn, hmx⟩ := hm
    simp only [mnT, mxT] at hmn hmx
    obtain ⟨u, hu⟩ : ∃ u, us[0]? = some u := ⟨_, List.getElem?_eq_getElem (by rw [hl]; simp [kidsT])⟩
    have hN := hkids 0 t1 u rfl hu
    obtain ⟨k1, la1, ka1, ln1, lc1, kn1, kc1, ng1, n1, lo1, hi1, lz1, hus⟩ := hN.shape.ex
    subst hus
    have hl1 : us.length = 1 := hl
    have hsc := Rx.szC_le t1
    generalize hk : Rx.szC t1 = k at hsc ⊢
    have hmk : mn * k ≤ 100 * k := Nat.mul_le_mul_right k (by omega)
    -- the end, where the sum is known
    (refine ret_of_G Tryd.func38 rfl Tryd.ntmps38 rfl ?_; simp only [argEnv])
    refine rn ?_
    refine sBox (us := ndC 7 (.slice la ln lc) false (.slice ka kn kc) n mn mx few) (fun W1 hb1 hs1 hx1 => ?_) (hv := rfl)
    have hkW := hkS.to hx1
    try (first | refine gl tb ?_ | refine gg tb ?_ | refine ll tb ?_ | refine lg tb ?_); repeat ((first | refine G.condT rfl ?_ | refine G.condF rfl ?_ | refine sFa tb ?_ | refine sLd tb ?_ | refine sLa tb ?_ | refine sLen tb ?_ | refine sFd tb ?_ | refine sBd tb ?_ | refine sIa tb 0 ?_); try (first | refine gl tb ?_ | refine gg tb ?_ | refine ll tb ?_ | refine lg tb ?_))
    refine sCall c38 (ih t1 (by simp [kidsT]) W1 A _ (hN.ext hx1)) ?_
    rintro _ W2 ⟨rfl, hx2⟩
    rw [hk]
    have hb2 := hb1.to hx2
    have hx12 := hx1.trans hx2
    have hmk2 : (mx.toNat - mn) * (k + 1) ≤ 100 * (k + 1) := Nat.mul_le_mul_right (k + 1) (by omega)
    refine rn ?_
    refine G.join (fun m : Nat => [(3, none, .int .i64 m)]) (fun m w' => m = Rx.sizeR k mn mx plus ∧ Ext w w') ?_ ?_
    rotate_left
    · first | refine G.condD rfl (fun hc => ?_) (fun hc => ?_) | refine G.condN rfl (fun hc => ?_) (fun hc => ?_) | refine G.cond rfl (fun hc => ?_) (fun hc => ?_)
      · simp only [Bool.and_eq_true, decide_eq_true_eq] at hc
        obtain ⟨⟨hc1, hc2⟩, hc3⟩ := hc
        have hpf : plus = false := by
          rcases plus with _ | _
          · rfl
          · have := hnp rfl; omega
        have hm0 : mn = 0 := by omega
        subst hpf hc3 hm0
        refine rn ?_
        refine sAd tb (r := ((k + 1 : Nat) : Int)) ?_
        refine rn ?_
        refine G.met (k + 1) (by repeat (first | exact Sub.nil _ | refine Sub.cons rfl ?_)) ⟨?_, hx12⟩
        simp [Rx.sizeR]
      clear hc
      refine rn ?_
      first | refine G.condD rfl (fun hc => ?_) (fun hc => ?_) | refine G.condN rfl (fun hc => ?_) (fun hc => ?_) | refine G.cond rfl (fun hc => ?_) (fun hc => ?_)
      · have hm0 : 0 ≤ mx := by omega
        have hpf : plus = false := by
          rcases plus with _ | _
          · rfl
          · have := hnp rfl; omega
        refine rn ?_
        refine sAd tb (r := ((mn * k : Nat) : Int)) ?_ (hp := by show IntKind.i64.wrap ((mn : Int) * (k : Int)) = _; rw [← Int.natCast_mul, wrap_i64 (by omega) (by omega)])
        refine rn ?_
        refine sAd tb (r := ((mx.toNat - mn : Nat) : Int)) ?_ (hp := by show IntKind.i64.wrap _ = _; rw [wrap_i64 (by omega) (by omega)]; omega)
        refine rn ?_
        refine sAd tb (r := ((k + 1 : Nat) : Int)) ?_
        refine rn ?_
        refine sAd tb (r := (((mx.toNat - mn) * (k + 1) : Nat) : Int)) ?_ (hp := by show IntKind.i64.wrap (((mx.toNat - mn : Nat) : Int) * ((k + 1 : Nat) : Int)) = _; rw [← Int.natCast_mul, wrap_i64 (by omega) (by omega)])
        refine rn ?_
        refine sAd tb (r := ((mn * k + (mx.toNat - mn) * (k + 1) : Nat) : Int)) ?_ (hp := by show IntKind.i64.wrap _ = _; rw [wrap_i64 (by omega) (by omega)]; omega)
        refine rn ?_
        refine G.met _ (by repeat (first | exact Sub.nil _ | refine Sub.cons rfl ?_)) ⟨?_, hx12⟩
        subst hpf
        unfold Rx.sizeR
        rw [if_neg (by simp), if_neg (by omega)]
      have hm0 : mx < 0 := by omega
      obtain ⟨hm1, hm2⟩ := hn1 hm0
      refine rn ?_
      first | refine G.condD rfl (fun hc => ?_) (fun hc => ?_) | refine G.condN rfl (fun hc => ?_) (fun hc => ?_) | refine G.cond rfl (fun hc => ?_) (fun hc => ?_)
      · simp only [Bool.and_eq_true, decide_eq_true_eq] at hc
        have hpt : plus = true := (hm2 (by omega)).1 hc.2
        subst hpt
        refine rn ?_
        refine sAd tb (r := ((k + 1 : Nat) : Int)) ?_
        refine rn ?_
        refine G.met (k + 1) (by repeat (first | exact Sub.nil _ | refine Sub.cons rfl ?_)) ⟨?_, hx12⟩
        simp [Rx.sizeR]
      · have hpf : plus = false := by
          rcases plus with _ | _
          · rfl
          · exfalso
            have h1 := hnp rfl
            have h2 := (hm2 h1.1).2 rfl
            revert hc
            simp only [imp_false, Bool.not_eq_false, Bool.and_eq_true, decide_eq_true_eq]
            omega
        refine rn ?_
        refine sAd tb (r := ((mn * k : Nat) : Int)) ?_ (hp := by show IntKind.i64.wrap ((mn : Int) * (k : Int)) = _; rw [← Int.natCast_mul, wrap_i64 (by omega) (by omega)])
        refine rn ?_
        refine sAd tb (r := ((mn * k + k : Nat) : Int)) ?_ (hp := by show IntKind.i64.wrap _ = _; rw [wrap_i64 (by omega) (by omega)]; omega)
        refine rn ?_
        refine sAd tb (r := ((mn * k + k + 2 : Nat) : Int)) ?_ (hp := by show IntKind.i64.wrap _ = _; rw [wrap_i64 (by omega) (by omega)]; omega)
        refine rn ?_
        refine G.met _ (by repeat (first | exact Sub.nil _ | refine Sub.cons rfl ?_)) ⟨?_, hx12⟩
        subst hpf
        unfold Rx.sizeR
        rw [if_neg (by simp), if_pos hm0]
        omega
    rintro m W3 ⟨hm3, hx3⟩
    have hmb : m ≤ 1000000000 := by
      rw [hm3]
      unfold Rx.sizeR
      split
      · omega
      · split <;> omega
    rw [← hm3]
    refine rn ?_
    first | refine G.condD rfl (fun hc => ?_) (fun hc => ?_) | refine G.condN rfl (fun hc => ?_) (fun hc => ?_) | refine G.cond rfl (fun hc => ?_) (fun hc => ?_)
    · refine rn ?_
      refine G.ret1 rfl rfl rfl rfl ?_
      refine ⟨?_, hx3⟩
      rw [cut_if, if_pos (by omega)]; rfl
    · refine rn ?_
      refine G.ret1 rfl rfl rfl rfl ?_
      refine ⟨?_, hx3⟩
      rw [cut_if, if_neg (by omega)]
theorem sizeR_all (t : Rx.T) : SizeR t := by
  refine Rx.T.rec (motive_1 := fun t => SizeR t) (motive_2 := fun l => ∀ t ∈ l, SizeR t) ?_ ?_ ?_ ?_ ?_ ?_ ?_ ?_ ?_ ?_ t
  · exact sizeR_step _ (fun t' h => by simp [kidsT] at h)
  · intro l neg; exact sizeR_step _ (fun t' h => by simp [kidsT] at h)
  · exact sizeR_step _ (fun t' h => by simp [kidsT] at h)
  · exact sizeR_step _ (fun t' h => by simp [kidsT] at h)
  · intro n t ih; exact sizeR_step _ (fun t' h => by simp [kidsT] at h; subst h; exact ih)
  · intro l ih; exact sizeR_step _ (fun t' h => ih t' (by simpa [kidsT] using h))
  · intro a b iha ihb; exact sizeR_step _ (fun t' h => by simp [kidsT] at h; rcases h with rfl | rfl; exact iha; exact ihb)
  · intro mn mx few plus t ih; exact sizeR_step _ (fun t' h => by simp [kidsT] at h; subst h; exact ih)
  · intro t h; simp at h
  · intro t l iht ihl t' h
    rcases List.mem_cons.1 h with rfl | h
    · exact iht
    · exact ihl t' h
end Go.Proofs.YtbpkhgehchelhaaDoor
end
section
open Go Go.Vg Go.RowKit Go.Proofs Go.Proofs.YtbpkhgehchelhaaDoor
namespace Go.Proofs.YtbpkhgehchelhaaDoor

def kR : Nat → Nat
  | 0 => 1
  | 1 => 2
  | 2 => 3
  | 3 => 6
  | 4 => 4
  | 5 => 5
  | _ => 7
/-- a step's cells -/
def sR (k : Rx.K) (lv : Value) : List Value := [.int .i64 (kR k.kind : Nat), .int .i64 ((if k.kind = 3 then k.slot else k.a : Nat) : Int), .int .i64 (k.b : Nat), lv, .bool k.neg]
/-- steps in memory -/
structure PSt (P Q : Nat → Prop) (w0 w : World) (pb : Nat) (v : Value) (lvs : List Value) (st : List Rx.K) : Prop where
  ow : Owns w (pb + 1) v 90 5 (List.zipWith sR st lvs)
  len : lvs.length = st.length
  tr : ∀ (i : Nat) (k : Rx.K) (lv : Value), st[i]? = some k → lvs[i]? = some lv → RowA w0 Q lv 3 1 ((flat k.l).map inC)
  np : ∀ g, v.ownBlock = some g → ¬ P g
/-- a program under way: blocks of P stay as they are in w0, where the nodes lie in Q -/
structure PgS (P Q : Nat → Prop) (w0 w : World) (pb : Nat) (st : List Rx.K) (ct : Int) : Prop where
  kq : Kq P w0 w
  pl : ∀ g, P g → g < w0.heap.size
  sub : ∀ g, Q g → P g
  np : ¬ P pb
  ex : ∃ v lvs, Bx w pb [v, .int .i64 ct] ∧ PSt P Q w0 w pb v lvs st
section
variable {P Q : Nat → Prop} {w0 w w' : World} {pb : Nat} {st : List Rx.K} {ct : Int} {v : Value} {lvs : List Value}
theorem PSt.zl (h : PSt P Q w0 w pb v lvs st) : (List.zipWith sR st lvs).length = st.length := by rw [List.length_zipWith, h.len, Nat.min_self]
theorem PSt.same (h : PSt P Q w0 w pb v lvs st) (hs : ∀ g, g < w.heap.size → v.ownBlock = some g → w'.heap[g]? = w.heap[g]?) : PSt P Q w0 w' pb v lvs st := ⟨h.ow.same hs, h.len, h.tr, h.np⟩
theorem PgS.to (h : PgS P Q w0 w pb st ct) (hx : Ext w w') : PgS P Q w0 w' pb st ct := by
  obtain ⟨v, lvs, hb, hs⟩ := h.ex
  exact ⟨h.kq.trans hx.kq, h.pl, h.sub, h.np, v, lvs, hb.to hx, hs.same fun g hg _ => hx.block g hg⟩
/-- one step more -/
theorem PgS.push {W1 W2 W3 : World} (h : PgS P Q w0 w pb st ct) (hb : Bx w pb [v, .int .i64 ct]) (hs : PSt P Q w0 w pb v lvs st) (hx : Ext w W1) {v' : Value} {k : Rx.K} {lv : Value}
    (hv : Owns W2 (pb + 1) v' 90 5 (List.zipWith sR st lvs ++ [sR k lv])) (hg : Grew (pb + 1) v W1 W2) (ho : Own2 W1 v v') (hw : Wr pb W2 W3) (hb3 : Bx W3 pb [v', .int .i64 ct]) (hl : RowA w0 Q lv 3 1 ((flat k.l).map inC)) : PgS P Q w0 W3 pb (st ++ [k]) ct := by
  refine ⟨((h.kq.trans hx.kq).trans (hg.kq hs.np)).trans (hw.kq h.np), h.pl, h.sub, h.np, v', lvs ++ [lv], hb3, ⟨?_, by simp [hs.len], ?_, ?_⟩⟩
  · rw [List.zipWith_append hs.len.symm]
    exact hv.wr hw (Nat.lt_succ_self pb)
  · intro i k' p' h1 h2
    by_cases hi : i < st.length
    · rw [List.getElem?_append_left hi] at h1
      rw [List.getElem?_append_left (by rw [hs.len]; exact hi)] at h2
      exact hs.tr i k' p' h1 h2
    · rw [List.getElem?_append_right (by omega)] at h1
      rw [List.getElem?_append_right (by rw [hs.len]; omega), hs.len] at h2
      rcases hj : i - st.length with _ | m
      · rw [hj] at h1 h2
        simp only [List.getElem?_cons_zero, Option.some.injEq] at h1 h2
        subst h1 h2
        exact hl
      · rw [hj] at h1; simp at h1
  · exact ho.np hs.np (fun e => by
      have h1 := h.pl _ e
      have h2 := h.kq.size
      have h3 := hx.size
      omega)
theorem sR_getD {i : Nat} {k : Rx.K} {lv : Value} (hk : st[i]? = some k) (hp : lvs[i]? = some lv) : (List.zipWith sR st lvs).getD i [] = sR k lv := by
  rw [List.getD_eq_getElem?_getD, List.getElem?_zipWith, hk, hp]; rfl
theorem sR_set {i : Nat} {k : Rx.K} {lv : Value} (hp : lvs[i]? = some lv) : (List.zipWith sR st lvs).set i (sR k lv) = List.zipWith sR (st.set i k) lvs := by
  apply List.ext_getElem?
  intro j
  rw [List.getElem?_zipWith, List.getElem?_set]
  by_cases hij : i = j
  · subst hij
    simp only [if_true]
    have hl := (List.getElem?_eq_some_iff.1 hp).1
    rw [List.length_zipWith, List.getElem?_set]
    simp only [if_true]
    by_cases hs : i < st.length
    · rw [if_pos (by omega), if_pos hs, hp]
    · rw [if_neg (by omega), if_neg hs]
  · rw [if_neg hij, List.getElem?_zipWith, List.getElem?_set_ne hij]
/-- a step set anew -/
theorem PgS.put {i : Nat} {k k' : Rx.K} {lv : Value} (h : PgS P Q w0 w pb st ct) (hb : Bx w pb [v, .int .i64 ct]) (hs : PSt P Q w0 w pb v lvs st) (hk : st[i]? = some k) (hp : lvs[i]? = some lv) (hl : k'.l = k.l)
    (ho : Owns w' (pb + 1) v 90 5 ((List.zipWith sR st lvs).set i (sR k' lv))) (hg : Grew (pb + 1) v w w') : PgS P Q w0 w' pb (st.set i k') ct := by
  refine ⟨h.kq.trans (hg.kq hs.np), h.pl, h.sub, h.np, v, lvs, hb.grew hg (hs.ow.ne (Nat.lt_succ_self pb)), ⟨by rw [← sR_set hp]; exact ho, by rw [hs.len, List.length_set], fun j kj lj h1 h2 => ?_, hs.np⟩⟩
  by_cases hij : i = j
  · subst hij
    have hlt := (List.getElem?_eq_some_iff.1 hk).1
    rw [List.getElem?_set] at h1
    simp only [if_true, hlt, Option.some.injEq] at h1
    subst h1
    rw [hl]
    exact hs.tr i k lj hk h2
  · rw [List.getElem?_set_ne hij] at h1
    exact hs.tr j kj lj h1 h2
/-- as it stands now, with a block more that stays -/
theorem PgS.lift {x : Nat} (h : PgS P Q w0 w pb st ct) (hx : x < w.heap.size) (hxp : x ≠ pb) (hxv : ∀ v : Value, ∀ us, Bx w pb (v :: us) → v.ownBlock ≠ some x) : PgS (fun g => P g ∨ g = x) Q w w pb st ct := by
  obtain ⟨v, lvs, hb, hs⟩ := h.ex
  refine ⟨Kq.refl _ _, fun g hg => hg.elim (fun hg => Nat.lt_of_lt_of_le (h.pl g hg) h.kq.size) (fun e => by rw [e]; exact hx), fun g hg => .inl (h.sub g hg), fun e => e.elim h.np (fun e => hxp e.symm), v, lvs, hb, ⟨hs.ow, hs.len, fun i k lv h1 h2 => ?_, fun g hg e => e.elim (hs.np g hg) (fun e => hxv v _ hb (by rw [hg, e]))⟩⟩
  exact (hs.tr i k lv h1 h2).same fun b hb hA => ⟨h.kq.same b hb (h.sub b hA), hA⟩
theorem PgS.back {x : Nat} {st' : List Rx.K} {ct' : Int} (h : PgS P Q w0 w pb st ct) (k : PgS (fun g => P g ∨ g = x) Q w w' pb st' ct') : PgS P Q w0 w' pb st' ct' := by
  obtain ⟨v, lvs, hb, hs⟩ := k.ex
  refine ⟨h.kq.trans (k.kq.mono fun g _ hg => .inl hg), h.pl, h.sub, h.np, v, lvs, hb, ⟨hs.ow, hs.len, fun i kk lv h1 h2 => ?_, fun g hg e => hs.np g hg (.inl e)⟩⟩
  have := hs.tr i kk lv h1 h2
  refine this.same fun b hb hA => ⟨?_, hA⟩
  have hp := h.sub b hA
  exact (h.kq.same b (h.pl b hp) hp).symm
theorem PgS.node {t : Rx.T} {u : List Value} (h : PgS P Q w0 w pb st ct) (hT : Nd w0 Q t u) : Nd w Q t u := hT.same fun b hb hA => ⟨h.kq.same b hb (h.sub b hA), hA⟩
theorem PgS.box {b : Nat} {us : List Value} (h : PgS P Q w0 w pb st ct) (hb : Bx w0 b us) (hP : P b) : Bx w b us := hb.same (h.kq.same b hb.lt hP)
end
/-- a fork's two -/
def turnK (k : Rx.K) (few : Bool) (a b : Nat) : Rx.K := if few then { k with a := b, b := a } else { k with a := a, b := b }
set_option maxHeartbeats 2000000 in
theorem turnR_ok {P Q : Nat → Prop} (w0 w : World) (pb : Nat) (st : List Rx.K) (ct : Int) (i a b : Nat) (few : Bool) (k : Rx.K) (h : PgS P Q w0 w pb st ct) (hi : st[i]? = some k) (hk : k.kind = 4) :
    Ret Tryd.prog 78 ⟨[ptr pb, .int .i64 i, .int .i64 a, .int .i64 b, .bool few]⟩ w fun _ w' => PgS P Q w0 w' pb (st.set i (turnK k few a b)) ct := by
  obtain ⟨v, lvs, hb, hs⟩ := h.ex
  have hlt := (List.getElem?_eq_some_iff.1 hi).1
  obtain ⟨lv, hlv⟩ : ∃ lv, lvs[i]? = some lv := ⟨_, List.getElem?_eq_getElem (by rw [hs.len]; exact hlt)⟩
  have hzl := hs.zl
  obtain ⟨x, y, hxy⟩ : ∃ x y, x = (if few then b else a) ∧ y = (if few then a else b) := ⟨_, _, rfl, rfl⟩
  have hkf : turnK k few a b = { k with a := x, b := y } := by
    unfold turnK
    cases few <;> simp [hxy]
  rw [hkf]
  refine ret_of_G Tryd.func78 rfl Tryd.ntmps78 rfl ?_
  simp only [argEnv]
  refine G.seq ?_
  refine G.join (fun _ : Unit => [(0, none, ptr pb), (1, none, .int .i64 i), (2, none, .int .i64 x), (3, none, .int .i64 y)]) (fun _ w' => w = w') ?_ ?_
  rotate_left
  · obtain ⟨hx, hy⟩ := hxy
    rcases few with _ | _
    · simp only [Bool.false_eq_true, if_false] at hx hy
      subst hx hy
      refine rn ?_
      exact G.met () (by repeat (first | exact Sub.nil _ | refine Sub.cons rfl ?_)) rfl
    · simp only [if_true] at hx hy
      subst hx hy
      refine rn ?_
      exact G.met () (by repeat (first | exact Sub.nil _ | refine Sub.cons rfl ?_)) rfl
  rintro _ W0 h0
  subst h0
  have how := hs.ow
  have hsl := how.sli
  have hget : (List.zipWith sR st lvs)[i]? = some (sR k lv) := by rw [List.getElem?_zipWith, hi, hlv]
  refine rn ?_
  refine sIa tb i ?_ (hj := fun _ => ⟨rfl, by rw [hzl]; exact hlt⟩)
  refine rn ?_
  refine GL.cons (Step.storeRowF tb (j := i) (off := 1) rfl (Op1.of rfl (by first | exact fun _ => rfl | exact fun h => h | exact fun h => bL h | exact fun h => bL (bL h) | exact fun h => bL (bL (bL h)))) (Op1.of rfl (by first | exact fun _ => rfl | exact fun h => h | exact fun h => bL h | exact fun h => bL (bL h) | exact fun h => bL (bL (bL h)))) rfl rfl rfl hs.ow (by rw [hzl]; exact hlt) (by decide) ?_)
  intro W1 ho1 hg1
  have e1 : ((List.zipWith sR st lvs).getD i []).set 1 (.int .i64 (x : Nat)) = sR { k with a := x } lv := by
    rw [sR_getD hi hlv]
    unfold sR
    simp [hk]
  rw [e1] at ho1
  have h1 := h.put (k' := { k with a := x }) hb hs hi hlv rfl ho1 hg1
  have hb1 := hb.grew hg1 (hs.ow.ne (Nat.lt_succ_self pb))
  obtain ⟨v1, lvs1, hb1', hs1⟩ := h1.ex
  obtain ⟨rfl, -⟩ : v = v1 ∧ True := by
    have := Bx.uniq hb1 hb1'
    simp only [List.cons.injEq] at this
    exact ⟨this.1, trivial⟩
  have hi1 : (st.set i { k with a := x })[i]? = some { k with a := x } := by rw [List.getElem?_set]; simp [hlt]
  have hlt1 : i < (st.set i { k with a := x }).length := by rw [List.length_set]; exact hlt
  obtain ⟨lv1, hlv1⟩ : ∃ lv, lvs1[i]? = some lv := ⟨_, List.getElem?_eq_getElem (by rw [hs1.len]; exact hlt1)⟩
  have hzl1 := hs1.zl
  clear hb hs how hsl ho1 hg1
  have how := hs1.ow
  have hsl := how.sli
  clear hget
  have hget : (List.zipWith sR (st.set i { k with a := x }) lvs1)[i]? = some (sR { k with a := x } lv1) := by rw [List.getElem?_zipWith, hi1, hlv1]
  refine rn ?_
  refine sIa tb i ?_ (hj := fun _ => ⟨rfl, by rw [hzl1]; exact hlt1⟩)
  refine rn ?_
  refine GL.cons (Step.storeRowF tb (j := i) (off := 2) rfl (Op1.of rfl (by first | exact fun _ => rfl | exact fun h => h | exact fun h => bL h | exact fun h => bL (bL h) | exact fun h => bL (bL (bL h)))) (Op1.of rfl (by first | exact fun _ => rfl | exact fun h => h | exact fun h => bL h | exact fun h => bL (bL h) | exact fun h => bL (bL (bL h)))) rfl rfl rfl hs1.ow (by rw [hzl1]; exact hlt1) (by decide) ?_)
  intro W2 ho2 hg2
  have e2 : ((List.zipWith sR (st.set i { k with a := x }) lvs1).getD i []).set 2 (.int .i64 (y : Nat)) = sR { k with a := x, b := y } lv1 := by
    rw [sR_getD hi1 hlv1]
    rfl
  rw [e2] at ho2
  have h2 := h1.put (k' := { k with a := x, b := y }) hb1' hs1 hi1 hlv1 rfl ho2 hg2
  rw [List.set_set] at h2
  refine rn ?_
  refine G.end0 rfl rfl rfl ?_
  exact h2
end Go.Proofs.YtbpkhgehchelhaaDoor
end
section
open Go Go.Vg Go.RowKit Go.Proofs Go.Proofs.YtbpkhgehchelhaaDoor
namespace Go.Proofs.YtbpkhgehchelhaaDoor

theorem cells_sub {w : World} {p : Value} {us vs : List Value} (o : Nat) (h : CellsAt w p us) (hv : ∀ i v, vs[i]? = some v → us[o + i]? = some v) : CellsAt w (padd p o) vs := by
  obtain ⟨a, rfl, hs, hc⟩ := h
  exact ⟨a.add o, rfl, Go.Vg.Addr.add_spot a hs o, fun i v h => by rw [Go.Vg.Addr.add_add a hs]; exact hc _ _ (hv i v h)⟩
theorem sR_one {k : Rx.K} {a : Option Addr} (n : Nat × Nat) : ∀ y ∈ [sR k (.slice a n.1 n.2)], ∀ c ∈ y, c.oneCell' = true := by
  intro y hy c hc
  simp only [List.mem_cons, List.not_mem_nil, or_false] at hy
  subst hy
  simp only [sR, List.mem_cons, List.not_mem_nil, or_false] at hc
  rcases hc with rfl | rfl | rfl | rfl | rfl <;> rfl
theorem codeL_snoc : ∀ (l : List Rx.T) (t : Rx.T) (p : Nat), Rx.codeL (l ++ [t]) p = Rx.codeL l p ++ Rx.codeT t (p + Rx.sizeL l)
  | [], t, p => by simp [Rx.codeL, Rx.sizeL]
  | x :: l, t, p => by
    simp only [List.cons_append, Rx.codeL, Rx.sizeL]
    rw [codeL_snoc l t, List.append_assoc]
    congr 2
    rw [Nat.add_assoc]
theorem codeL_len (l : List Rx.T) (p : Nat) : (Rx.codeL l p).length = Rx.sizeL l := by
  have := Rx.codeT_len (.seq l) p
  simpa [Rx.codeT, Rx.sizeT] using this
theorem sizeL_snoc : ∀ (l : List Rx.T) (t : Rx.T), Rx.sizeL (l ++ [t]) = Rx.sizeL l + Rx.sizeT t
  | [], t => by simp [Rx.sizeL]
  | x :: l, t => by
    have := sizeL_snoc l t
    simp only [List.cons_append, Rx.sizeL] at this ⊢
    omega
theorem sizeL_take (l : List Rx.T) (k : Nat) : Rx.sizeL (l.take k) ≤ Rx.sizeL l := by
  induction l generalizing k with
  | nil => simp
  | cons x l ih =>
    cases k with
    | zero => simp [Rx.sizeL]
    | succ k => have := ih k; simp only [List.take_succ_cons, Rx.sizeL]; omega
def EmitC (t : Rx.T) : Prop := ∀ (P Q : Nat → Prop) (w0 w : World) (pb : Nat) (st : List Rx.K) (ct : Int) (u : List Value), PgS P Q w0 w pb st ct → Nd w0 Q t u → st.length + Rx.sizeT t ≤ 2000 →
  Ret Tryd.prog 39 ⟨[ptr pb, .agg ⟨u⟩]⟩ w fun _ w' => PgS P Q w0 w' pb (st ++ Rx.codeT t st.length) ct
def RepE (t : Rx.T) : Prop := ∀ (P Q : Nat → Prop) (w0 w : World) (pb : Nat) (st : List Rx.K) (ct : Int) (u : List Value), PgS P Q w0 w pb st ct → Nd w0 Q t u → st.length + Rx.sizeT t ≤ 2000 →
  Ret Tryd.prog 61 ⟨[ptr pb, .agg ⟨u⟩]⟩ w fun _ w' => PgS P Q w0 w' pb (st ++ Rx.codeT t st.length) ct
set_option maxHeartbeats 4000000 in
/-- a row's steps -/
theorem emit4 (ks : List Rx.T) (ih : ∀ t ∈ ks, EmitC t) (P Q : Nat → Prop) (w0 w : World) (pb : Nat) (st : List Rx.K) (ct : Int) (la : Option Addr) (ln lc : Nat) (neg : Bool) (kv : Value) (n lo hi : Int) (lz : Bool) (us : List (List Value)) (h : PgS P Q w0 w pb st ct)
    (hk : RowA w0 Q kv 85 8 us) (hl : us.length = ks.length) (hkl : ks.length ≤ 1000) (hkids : ∀ (i : Nat) (t : Rx.T) (u : List Value), ks[i]? = some t → us[i]? = some u → Nd w0 Q t u) (hsz : st.length + Rx.sizeL ks ≤ 2000) :
    Ret Tryd.prog 39 ⟨[ptr pb, .agg ⟨ndC 4 (.slice la ln lc) neg kv n lo hi lz⟩]⟩ w fun _ w' => PgS P Q w0 w' pb (st ++ Rx.codeL ks st.length) ct := by
  obtain ⟨ka, kc, hkv, -⟩ := hk.own.sli.len
  obtain ⟨kn, hkn⟩ : ∃ kn, kn = us.length := ⟨_, rfl⟩
  rw [← hkn] at hkv
  subst hkv
  obtain ⟨v0, lvs0, hb0, hs0⟩ := h.ex
  refine ret_of_G Tryd.func39 rfl Tryd.ntmps39 rfl ?_
  simp only [argEnv]
  refine rn ?_
  refine sBox (us := ndC 4 (.slice la ln lc) neg (.slice ka kn kc) n lo hi lz) (fun W1 hbx hs1 hx1 => ?_) (hv := rfl)
  have h1 := h.to hx1
  have hx : w.heap.size < W1.heap.size := hbx.lt
  have hL := h1.lift hx (by have := hb0.lt; omega) (fun v us hb e => by
    have := Bx.uniq (hb0.to hx1) hb
    simp only [List.cons.injEq] at this
    rw [← this.1] at e
    have := (hs0.ow.lt _ e).2
    omega)
  have hkW : ∀ W, Kq (fun g => P g ∨ g = w.heap.size) W1 W → Sli W (.slice ka kn kc) 8 us := fun W hq => (hk.own.same fun g hg e => by
    have hp := h.sub g (hk.inn g e)
    rw [hq.same g (by have := h1.kq.size; omega) (.inl hp)]
    exact h1.kq.same g hg hp).sli
  have hN : ∀ (i : Nat) (t : Rx.T) (u : List Value), ks[i]? = some t → us[i]? = some u → Nd W1 Q t u := fun i t u g1 g2 => h1.node (hkids i t u g1 g2)
  refine rn ?_
  refine (G.loop (fun k : Nat => [(0, none, ptr pb), (3, none, ptr w.heap.size), (4, none, .int .i64 k)]) (fun k W => PgS (fun g => P g ∨ g = w.heap.size) Q W1 W pb (st ++ Rx.codeL (ks.take k) st.length) ct ∧ k ≤ ks.length) (fun k => ks.length - k) 0 (by repeat (first | exact Sub.nil _ | refine Sub.cons rfl ?_)) ⟨by simpa [Rx.codeL] using hL, Nat.zero_le _⟩ ?_)
  rintro k W ⟨hk1, hkk⟩
  have hbW : Bx W w.heap.size (ndC 4 (.slice la ln lc) neg (.slice ka kn kc) n lo hi lz) := hk1.box hbx (.inr rfl)
  have hkS := hkW W hk1.kq
  refine rn ?_
  rw [hl]
  refine rn ?_
  first | refine G.condD rfl (fun hc => ?_) (fun hc => ?_) | refine G.condN rfl (fun hc => ?_) (fun hc => ?_) | refine G.cond rfl (fun hc => ?_) (fun hc => ?_)
  · have hlt : k < ks.length := by omega
    obtain ⟨u, hu⟩ : ∃ u, us[k]? = some u := ⟨_, List.getElem?_eq_getElem (by rw [hl]; exact hlt)⟩
    have hNk := hN k ks[k] u (List.getElem?_eq_getElem hlt) hu
    obtain ⟨k1, la1, ka1, ln1, lc1, kn1, kc1, ng1, n1, lo1, hi1, lz1, hus⟩ := hNk.shape.ex
    subst hus
    have htk : ks.take (k + 1) = ks.take k ++ [ks[k]] := List.take_succ_eq_append_getElem hlt
    have hszt := sizeL_take ks (k + 1)
    rw [htk, sizeL_snoc] at hszt
    try (first | refine gl tb ?_ | refine gg tb ?_ | refine ll tb ?_ | refine lg tb ?_); repeat ((first | refine G.condT rfl ?_ | refine G.condF rfl ?_ | refine sFa tb ?_ | refine sLd tb ?_ | refine sLa tb ?_ | refine sLen tb ?_ | refine sFd tb ?_ | refine sBd tb ?_ | refine sIa tb k ?_); try (first | refine gl tb ?_ | refine gg tb ?_ | refine ll tb ?_ | refine lg tb ?_))
    refine sCall c39 (ih ks[k] (List.getElem_mem hlt) _ Q W1 W pb _ ct _ hk1 hNk (by rw [List.length_append, codeL_len]; omega)) ?_
    rintro _ W2 hk2
    rw [List.length_append, codeL_len, List.append_assoc, ← codeL_snoc, ← htk] at hk2
    refine rn ?_
    refine sAd tb (r := ((k + 1 : Nat) : Int)) ?_
    refine rn ?_
    exact G.lp (x := k) (k + 1) (by repeat (first | exact Sub.nil _ | refine Sub.cons rfl ?_)) ⟨hk2, hlt⟩ (by omega)
  · have hke : ks.length ≤ k := by omega
    rw [List.take_of_length_le hke] at hk1
    refine rn ?_
    refine G.end0 rfl rfl rfl ?_
    exact h1.back hk1
end Go.Proofs.YtbpkhgehchelhaaDoor
end
section
open Go Go.Vg Go.RowKit Go.Proofs Go.Proofs.YtbpkhgehchelhaaDoor
namespace Go.Proofs.YtbpkhgehchelhaaDoor

theorem set_at (A B : List Rx.K) (k k' : Rx.K) (i : Nat) (hi : i = A.length) : (A ++ k :: B).set i k' = A ++ k' :: B := by
  subst hi
  simp
theorem get_at (A B : List Rx.K) (k : Rx.K) (i : Nat) (hi : i = A.length) : (A ++ k :: B)[i]? = some k := by
  subst hi
  simp
set_option maxHeartbeats 8000000 in
theorem emit_step (t : Rx.T) (ih : ∀ t' ∈ kidsT t, EmitC t') (hrep : ∀ mn mx few plus t', t = .rep mn mx few plus t' → RepE t) : EmitC t := by
  intro P Q w0 w pb st ct u h hT hsz
  have hT0 := hT
  cases hT with
  | mk lv kv n us hs hm hn hk hl hkl hkids =>
  obtain ⟨la, lc, hlv, -⟩ := hs.own.sli.len
  generalize ((flat (spansT t)).map inC).length = ln at hlv
  subst hlv
  by_cases h4 : kindN t = 4
  · have h0 : mnT t = 0 ∧ mxT t = 0 ∧ fewT t = false ∧ negT t = false ∧ Rx.sizeT t = Rx.sizeL (kidsT t) ∧ ∀ p, Rx.codeT t p = Rx.codeL (kidsT t) p := by
      cases t with
      | emp => exact ⟨rfl, rfl, rfl, rfl, by simp [Rx.sizeT, Rx.sizeL, kidsT], fun p => by simp [Rx.codeT, Rx.codeL, kidsT]⟩
      | set l neg => cases h4
      | bos => cases h4
      | eos => cases h4
      | seq l => exact ⟨rfl, rfl, rfl, rfl, by simp [Rx.sizeT, kidsT], fun p => by simp [Rx.codeT, kidsT]⟩
      | alt a b => cases h4
      | rep a b c d e => cases h4
      | grp m t1 =>
        have hm0 : m = 0 := by
          by_cases hm0 : m = 0
          · exact hm0
          · have : kindN (.grp m t1) = 6 := if_neg hm0
            rw [this] at h4; cases h4
        subst hm0
        exact ⟨rfl, rfl, rfl, rfl, by simp [Rx.sizeT, Rx.sizeL, kidsT], fun p => by simp [Rx.codeT, Rx.codeL, kidsT]⟩
    obtain ⟨g1, g2, g3, g4, g5, g6⟩ := h0
    rw [h4, g1, g2, g3, g4, g6]
    rw [g5] at hsz
    exact emit4 (kidsT t) ih P Q w0 w pb st ct la ln lc false kv n 0 0 false us h hk hl hkl hkids hsz
  obtain ⟨ka, kc, hkv, -⟩ := hk.own.sli.len
  obtain ⟨kn, hkn⟩ : ∃ kn, kn = us.length := ⟨_, rfl⟩
  rw [← hkn] at hkv
  subst hkv
  obtain ⟨v0, lvs0, hb0, hs0⟩ := h.ex
  have hpbl := hb0.lt
  refine ret_of_G Tryd.func39 rfl Tryd.ntmps39 rfl ?_
  simp only [argEnv]
  refine rn ?_
  refine sBox (us := ndC (kindN t) (.slice la ln lc) (negT t) (.slice ka kn kc) n (mnT t) (mxT t) (fewT t)) (fun W1 hbx hs1 hx1 => ?_) (hv := rfl)
  have h1 := h.to hx1
  have hx : w.heap.size < W1.heap.size := hbx.lt
  have hL := h1.lift hx (by omega) (fun v us hb e => by
    have := Bx.uniq (hb0.to hx1) hb
    simp only [List.cons.injEq] at this
    rw [← this.1] at e
    have := (hs0.ow.lt _ e).2
    omega)
  have hkW : ∀ W, Kq (fun g => P g ∨ g = w.heap.size) W1 W → Sli W (.slice ka kn kc) 8 us := fun W hq => (hk.own.same fun g hg e => by
    have hp := h.sub g (hk.inn g e)
    rw [hq.same g (by have := h1.kq.size; omega) (.inl hp)]
    exact h1.kq.same g hg hp).sli
  have hN : ∀ (i : Nat) (t' : Rx.T) (u : List Value), (kidsT t)[i]? = some t' → us[i]? = some u → Nd W1 Q t' u := fun i t' u g1 g2 => h1.node (hkids i t' u g1 g2)
  have hbW : ∀ {W : World} {st' : List Rx.K}, PgS (fun g => P g ∨ g = w.heap.size) Q W1 W pb st' ct → Bx W w.heap.size (ndC (kindN t) (.slice la ln lc) (negT t) (.slice ka kn kc) n (mnT t) (mxT t) (fewT t)) := fun h => h.box hbx (.inr rfl)
  have hlv1 : RowA W1 Q (.slice la ln lc) 3 1 ((flat (spansT t)).map inC) := hs.same fun b hb hA => ⟨h1.kq.same b hb (h.sub b hA), hA⟩
  have hnil : ∀ k : Nat, RowA W1 Q (.slice none 0 0) 3 1 ((flat (Rx.kOf k).l).map inC) := fun k => RowA.nil _ _ _ _
  have hbk := fun {W : World} {st' : List Rx.K} (k : PgS (fun g => P g ∨ g = w.heap.size) Q W1 W pb st' ct) => h1.back k
  have hTW := h1.node hT0
  clear hb0 hs0 h1 hs1 hx1 hT0
  cases t with
  | emp => exact absurd rfl h4
  | seq l => exact absurd rfl h4
  | set l neg =>
    have e1 : Rx.codeT (.set l neg) st.length = [{ Rx.kOf 0 with l := l, neg := neg }] := by simp [Rx.codeT]
    have e2 : Rx.sizeT (.set l neg) = 1 := by simp [Rx.sizeT]
    rw [e2] at hsz
    rw [e1]
    have h := hL
    have hbW : Bx W1 w.heap.size (ndC 1 (.slice la ln lc) neg (.slice ka kn kc) n 0 0 false) := hbx
    obtain ⟨v, lvs, hb, hs⟩ := h.ex
    have hzl := hs.zl
    refine rn ?_
    refine G.regionZ 12 [(0, true), (1, true), (2, true), (3, true), (4, true), (5, true), (6, true), (7, true), (8, false), (9, false), (10, true), (11, true)] (fun w' => Bx w' pb [v, .int .i64 ct] ∧ Bx w' w.heap.size (ndC 1 (.slice la ln lc) neg (.slice ka kn kc) n 0 0 false)) (by kernel_rfl) (by kernel_rfl) rfl mixed (⟨hb.to (Ext.drew W1), hbW.to (Ext.drew W1)⟩) rfl rfl ?_
    refine rd ?_
    refine dLd tb (u := v) ?_ (hc := fun w' hS _ => Bx.c0 hS.1 (by exact rfl))
    refine rd ?_
    refine dLa tb (us := [.slice la ln lc, .bool neg]) ?_ (hc := fun w' hS _ => cells_sub 1 hS.2.cells (fun i v hv => by
      rcases i with _ | _ | i
      · exact hv
      · exact hv
      · simp at hv))
    refine GM.read (fun w' hS => Step.build tb rfl rfl rfl rfl rfl rfl rfl rfl rfl ⟨rfl, rfl⟩) rfl rfl ?_
    refine rd ?_
    refine GM.eff (Step.buildSlice tb [sR ({ Rx.kOf 0 with l := l, neg := neg }) (.slice la ln lc)] rfl rfl rfl rfl rfl rfl (by rfl) rfl (by kernel_rfl) (by rfl) (by rfl) (by simp [sR]) rfl ?_); intro us2 W2 ho2 hs2 hx2; have hx02 := (Ext.drew W1).trans hx2; refine ⟨⟨hb.to hx02, hbW.to hx02⟩, ?_⟩; (refine rd ?_); refine GM.eff (Step.append2 tb rfl (Op1.of rfl (by first | exact fun _ => rfl | exact fun h => h | exact fun h => bL h | exact fun h => bL (bL h) | exact fun h => bL (bL (bL h)))) (Op1.of rfl (by first | exact fun _ => rfl | exact fun h => h | exact fun h => bL h | exact fun h => bL (bL h) | exact fun h => bL (bL (bL h)))) rfl rfl rfl (by rfl) (hs.ow.to hx02) (ho2.sli) (sR_one (_, _)) (by simp only [List.length_map, List.length_append, List.length_cons, List.length_nil, List.length_take, List.length_drop]; omega) (by simp only [List.length_map, List.length_append, List.length_cons, List.length_nil, List.length_take, List.length_drop]; omega) ((by have := hb.lt; have := hx02.size; omega)) rfl ?_); intro v' W3 hv3 hg3 ho3; have hb3 := (hb.to hx02).grew hg3 ((hs.ow.to hx02).ne (Nat.lt_succ_self pb)); have hbW3 := (hbW.to hx02).grew hg3 (fun e => hs.np _ e.symm (.inr rfl)); refine ⟨⟨hb3, hbW3⟩, ?_⟩; (refine rd ?_); refine GM.nil ?_; refine zSf tb (fun W4 hb4 hw4 => ?_); have h := h.push hb hs hx02 hv3 hg3 ho3 hw4 hb4 (hlv1); clear hb hs hzl hb3 hbW3 hb4 hw4 hv3 hg3 ho3 ho2 hs2 hx2 hx02
    refine rn ?_
    refine G.end0 rfl rfl rfl ?_
    exact hbk h
  | bos =>
    have e1 : Rx.codeT .bos st.length = [Rx.kOf 1] := by simp [Rx.codeT]
    have e2 : Rx.sizeT .bos = 1 := by simp [Rx.sizeT]
    rw [e2] at hsz
    rw [e1]
    have h := hL
    have hbW2 : Bx W1 w.heap.size (ndC 2 (.slice la ln lc) false (.slice ka kn kc) n 0 0 false) := hbx
    obtain ⟨v, lvs, hb, hs⟩ := h.ex; have hzl := hs.zl; have hpb := hb.lt; (refine rn ?_); refine sBs' tb [sR (Rx.kOf 1) (.slice none 0 0)] (fun us W1 ho1 hs1 hx1 => ?_) (hkl := by simp [sR]) (hfill := by kernel_rfl); (refine rn ?_); refine sApp2 tb (hs.ow.to hx1) ho1.sli (fun v' W2 hv2 hg2 ho2 => ?_) (h1 := sR_one (_, _)) (hb := by rw [hzl]; simp only [List.length_cons, List.length_nil]; omega) (hl := by rw [hzl]; simp only [List.length_cons, List.length_nil]; omega) (hB := by have := hx1.size; omega); have hb2 := (hb.to hx1).grew hg2 ((hs.ow.to hx1).ne (Nat.lt_succ_self pb)); (refine rn ?_); refine sSf tb (fun W3 hb3 hw3 => ?_); have h := h.push hb hs hx1 hv2 hg2 ho2 hw3 hb3 (hnil 1); clear hb hs hzl hb2 hb3 hw3 hv2 hg2 ho2 ho1 hs1 hx1 hpb
    refine rn ?_
    refine G.end0 rfl rfl rfl ?_
    exact hbk h
  | eos =>
    have e1 : Rx.codeT .eos st.length = [Rx.kOf 2] := by simp [Rx.codeT]
    have e2 : Rx.sizeT .eos = 1 := by simp [Rx.sizeT]
    rw [e2] at hsz
    rw [e1]
    have h := hL
    have hbW2 : Bx W1 w.heap.size (ndC 3 (.slice la ln lc) false (.slice ka kn kc) n 0 0 false) := hbx
    obtain ⟨v, lvs, hb, hs⟩ := h.ex; have hzl := hs.zl; have hpb := hb.lt; (refine rn ?_); refine sBs' tb [sR (Rx.kOf 2) (.slice none 0 0)] (fun us W1 ho1 hs1 hx1 => ?_) (hkl := by simp [sR]) (hfill := by kernel_rfl); (refine rn ?_); refine sApp2 tb (hs.ow.to hx1) ho1.sli (fun v' W2 hv2 hg2 ho2 => ?_) (h1 := sR_one (_, _)) (hb := by rw [hzl]; simp only [List.length_cons, List.length_nil]; omega) (hl := by rw [hzl]; simp only [List.length_cons, List.length_nil]; omega) (hB := by have := hx1.size; omega); have hb2 := (hb.to hx1).grew hg2 ((hs.ow.to hx1).ne (Nat.lt_succ_self pb)); (refine rn ?_); refine sSf tb (fun W3 hb3 hw3 => ?_); have h := h.push hb hs hx1 hv2 hg2 ho2 hw3 hb3 (hnil 2); clear hb hs hzl hb2 hb3 hw3 hv2 hg2 ho2 ho1 hs1 hx1 hpb
    refine rn ?_
    refine G.end0 rfl rfl rfl ?_
    exact hbk h
  | rep mn mx few plus t' =>
    have hbW2 : Bx W1 w.heap.size (ndC 7 (.slice la ln lc) false (.slice ka kn kc) n mn mx few) := hbx
    refine rn ?_
    refine sCall c61 (hrep mn mx few plus t' rfl _ Q W1 W1 pb st ct _ hL hTW hsz) ?_
    rintro _ W2 h2
    refine rn ?_
    refine G.end0 rfl rfl rfl ?_
    exact hbk h2
  | grp m t1 =>
    have hm0 : ¬ m = 0 := fun e => h4 (if_pos e)
    have hkn6 : kindN (.grp m t1) = 6 := if_neg hm0
    rw [hkn6] at hbx
    have hnm : n = (m : Nat) := hn
    subst hnm
    have hmb : m ≤ 256 := hm.2.1
    have hbx : Bx W1 w.heap.size (ndC 6 (.slice la ln lc) false (.slice ka kn kc) (m : Nat) 0 0 false) := hbx
    have hbG : ∀ {W : World} {st' : List Rx.K}, PgS (fun g => P g ∨ g = w.heap.size) Q W1 W pb st' ct → Bx W w.heap.size (ndC 6 (.slice la ln lc) false (.slice ka kn kc) (m : Nat) 0 0 false) := fun h => h.box hbx (.inr rfl)
    have e1 : Rx.codeT (.grp m t1) st.length = { Rx.kOf 3 with slot := 2 * m } :: (Rx.codeT t1 (st.length + 1) ++ [{ Rx.kOf 3 with slot := 2 * m + 1 }]) := by simp [Rx.codeT, hm0]
    have e2 : Rx.sizeT (.grp m t1) = Rx.sizeT t1 + 2 := by simp [Rx.sizeT, hm0]
    rw [e2] at hsz
    rw [e1]
    clear hbW hTW
    have h := hL
    obtain ⟨u, hu⟩ : ∃ u, us[0]? = some u := ⟨_, List.getElem?_eq_getElem (by rw [hl]; simp [kidsT])⟩
    have hN0 := hN 0 t1 u rfl hu
    obtain ⟨k1, la1, ka1, ln1, lc1, kn1, kc1, ng1, n1, lo1, hi1, lz1, hus⟩ := hN0.shape.ex
    subst hus
    have hl1 : us.length = 1 := hl
    obtain ⟨v, lvs, hb, hs⟩ := h.ex
    have hzl := hs.zl
    have hbW := hbG h
    have hn3 := hnil 3
    refine rn ?_
    refine G.regionZ 13 [(0, true), (1, true), (2, true), (3, true), (4, true), (5, true), (6, true), (7, true), (8, true), (9, false), (10, false), (11, true), (12, true)] (fun w' => Bx w' pb [v, .int .i64 ct] ∧ Bx w' w.heap.size (ndC 6 (.slice la ln lc) false (.slice ka kn kc) (m : Nat) 0 0 false)) (by kernel_rfl) (by kernel_rfl) rfl mixed (⟨hb.to (Ext.drew W1), hbW.to (Ext.drew W1)⟩) rfl rfl ?_
    refine rd ?_
    refine dLd tb (u := v) ?_ (hc := fun w' hS _ => Bx.c0 hS.1 (by exact rfl))
    refine rd ?_
    refine dLd tb (u := .int .i64 (m : Nat)) ?_ (hc := fun w' hS _ => Bx.ci (i := 4) hS.2 (by exact rfl))
    refine rd ?_
    refine dAd tb (r := ((2 * m : Nat) : Int)) ?_ (hp := by show IntKind.i64.wrap _ = _; rw [wrap_i64 (by omega) (by omega)]; omega)
    refine rd ?_
    refine GM.read (fun w' hS => Step.build tb rfl rfl rfl rfl rfl rfl rfl rfl rfl ⟨rfl, rfl⟩) rfl rfl ?_
    refine rd ?_
    refine GM.eff (Step.buildSlice tb [sR ({ Rx.kOf 3 with slot := 2 * m }) (.slice none 0 0)] rfl rfl rfl rfl rfl rfl (by rfl) rfl (by kernel_rfl) (by rfl) (by rfl) (by simp [sR]) rfl ?_); intro us2 W2 ho2 hs2 hx2; have hx02 := (Ext.drew W1).trans hx2; refine ⟨⟨hb.to hx02, hbW.to hx02⟩, ?_⟩; (refine rd ?_); refine GM.eff (Step.append2 tb rfl (Op1.of rfl (by first | exact fun _ => rfl | exact fun h => h | exact fun h => bL h | exact fun h => bL (bL h) | exact fun h => bL (bL (bL h)))) (Op1.of rfl (by first | exact fun _ => rfl | exact fun h => h | exact fun h => bL h | exact fun h => bL (bL h) | exact fun h => bL (bL (bL h)))) rfl rfl rfl (by rfl) (hs.ow.to hx02) (ho2.sli) (sR_one (_, _)) (by simp only [List.length_map, List.length_append, List.length_cons, List.length_nil, List.length_take, List.length_drop]; omega) (by simp only [List.length_map, List.length_append, List.length_cons, List.length_nil, List.length_take, List.length_drop]; omega) ((by have := hb.lt; have := hx02.size; omega)) rfl ?_); intro v' W3 hv3 hg3 ho3; have hb3 := (hb.to hx02).grew hg3 ((hs.ow.to hx02).ne (Nat.lt_succ_self pb)); have hbW3 := (hbW.to hx02).grew hg3 (fun e => hs.np _ e.symm (.inr rfl)); refine ⟨⟨hb3, hbW3⟩, ?_⟩; (refine rd ?_); refine GM.nil ?_; refine zSf tb (fun W4 hb4 hw4 => ?_); have h := h.push hb hs hx02 hv3 hg3 ho3 hw4 hb4 (hn3); clear hb hs hzl hb3 hbW3 hb4 hw4 hv3 hg3 ho3 ho2 hs2 hx2 hx02
    clear hbW
    have hbW := hbG h
    have hkS := hkW _ h.kq
    try (first | refine gl tb ?_ | refine gg tb ?_ | refine ll tb ?_ | refine lg tb ?_); repeat ((first | refine G.condT rfl ?_ | refine G.condF rfl ?_ | refine sFa tb ?_ | refine sLd tb ?_ | refine sLa tb ?_ | refine sLen tb ?_ | refine sFd tb ?_ | refine sBd tb ?_ | refine sIa tb 0 ?_); try (first | refine gl tb ?_ | refine gg tb ?_ | refine ll tb ?_ | refine lg tb ?_))
    refine sCall c39 (ih t1 (by simp [kidsT]) _ Q W1 _ pb _ ct _ h hN0 (by rw [List.length_append]; simp only [List.length_cons, List.length_nil]; omega)) ?_
    rintro _ W5 h5
    clear h hkS hbW
    have h := h5
    have hlen : ((st ++ [{ Rx.kOf 3 with slot := 2 * m }]) ++ Rx.codeT t1 (st ++ [{ Rx.kOf 3 with slot := 2 * m }]).length).length ≤ 1999 := by
      rw [List.length_append, Rx.codeT_len, List.length_append]; simp only [List.length_cons, List.length_nil]; omega
    obtain ⟨st2, hst2⟩ : ∃ st2, st2 = (st ++ [{ Rx.kOf 3 with slot := 2 * m }]) ++ Rx.codeT t1 (st ++ [{ Rx.kOf 3 with slot := 2 * m }]).length := ⟨_, rfl⟩
    rw [← hst2] at h hlen
    obtain ⟨v, lvs, hb, hs⟩ := h.ex
    have hzl := hs.zl
    have hbW := hbG h
    refine rn ?_
    refine G.regionZ 14 [(0, true), (1, true), (2, true), (3, true), (4, true), (5, true), (6, true), (7, true), (8, true), (9, true), (10, false), (11, false), (12, true), (13, true)] (fun w' => Bx w' pb [v, .int .i64 ct] ∧ Bx w' w.heap.size (ndC 6 (.slice la ln lc) false (.slice ka kn kc) (m : Nat) 0 0 false)) (by kernel_rfl) (by kernel_rfl) rfl mixed (⟨hb.to (Ext.drew W5), hbW.to (Ext.drew W5)⟩) rfl rfl ?_
    refine rd ?_
    refine dLd tb (u := v) ?_ (hc := fun w' hS _ => Bx.c0 hS.1 (by exact rfl))
    refine rd ?_
    refine dLd tb (u := .int .i64 (m : Nat)) ?_ (hc := fun w' hS _ => Bx.ci (i := 4) hS.2 (by exact rfl))
    refine rd ?_
    refine dAd tb (r := ((2 * m : Nat) : Int)) ?_ (hp := by show IntKind.i64.wrap _ = _; rw [wrap_i64 (by omega) (by omega)]; omega)
    refine rd ?_
    refine dAd tb (r := ((2 * m + 1 : Nat) : Int)) ?_ (hp := by show IntKind.i64.wrap _ = _; rw [wrap_i64 (by omega) (by omega)]; omega)
    refine rd ?_
    refine GM.read (fun w' hS => Step.build tb rfl rfl rfl rfl rfl rfl rfl rfl rfl ⟨rfl, rfl⟩) rfl rfl ?_
    refine rd ?_
    refine GM.eff (Step.buildSlice tb [sR ({ Rx.kOf 3 with slot := 2 * m + 1 }) (.slice none 0 0)] rfl rfl rfl rfl rfl rfl (by rfl) rfl (by kernel_rfl) (by rfl) (by rfl) (by simp [sR]) rfl ?_); intro us2 W2 ho2 hs2 hx2; have hx02 := (Ext.drew W5).trans hx2; refine ⟨⟨hb.to hx02, hbW.to hx02⟩, ?_⟩; (refine rd ?_); refine GM.eff (Step.append2 tb rfl (Op1.of rfl (by first | exact fun _ => rfl | exact fun h => h | exact fun h => bL h | exact fun h => bL (bL h) | exact fun h => bL (bL (bL h)))) (Op1.of rfl (by first | exact fun _ => rfl | exact fun h => h | exact fun h => bL h | exact fun h => bL (bL h) | exact fun h => bL (bL (bL h)))) rfl rfl rfl (by rfl) (hs.ow.to hx02) (ho2.sli) (sR_one (_, _)) (by simp only [List.length_map, List.length_append, List.length_cons, List.length_nil, List.length_take, List.length_drop]; omega) (by simp only [List.length_map, List.length_append, List.length_cons, List.length_nil, List.length_take, List.length_drop]; omega) ((by have := hb.lt; have := hx02.size; omega)) rfl ?_); intro v' W3 hv3 hg3 ho3; have hb3 := (hb.to hx02).grew hg3 ((hs.ow.to hx02).ne (Nat.lt_succ_self pb)); have hbW3 := (hbW.to hx02).grew hg3 (fun e => hs.np _ e.symm (.inr rfl)); refine ⟨⟨hb3, hbW3⟩, ?_⟩; (refine rd ?_); refine GM.nil ?_; refine zSf tb (fun W4 hb4 hw4 => ?_); have h := h.push hb hs hx02 hv3 hg3 ho3 hw4 hb4 (hn3); clear hb hs hzl hb3 hbW3 hb4 hw4 hv3 hg3 ho3 ho2 hs2 hx2 hx02
    refine rn ?_
    refine G.end0 rfl rfl rfl ?_
    have := hbk h
    rw [hst2] at this
    simpa [List.append_assoc] using this
  | alt ta tc =>
    have hbx : Bx W1 w.heap.size (ndC 5 (.slice la ln lc) false (.slice ka kn kc) n 0 0 false) := hbx
    have hbG : ∀ {W : World} {st' : List Rx.K}, PgS (fun g => P g ∨ g = w.heap.size) Q W1 W pb st' ct → Bx W w.heap.size (ndC 5 (.slice la ln lc) false (.slice ka kn kc) n 0 0 false) := fun h => h.box hbx (.inr rfl)
    have e1 : Rx.codeT (.alt ta tc) st.length = Rx.forkK false (st.length + 1) (st.length + 2 + Rx.sizeT ta) :: (Rx.codeT ta (st.length + 1) ++ ({ Rx.kOf 5 with a := st.length + 2 + Rx.sizeT ta + Rx.sizeT tc } :: Rx.codeT tc (st.length + 2 + Rx.sizeT ta))) := by simp [Rx.codeT]
    have e2 : Rx.sizeT (.alt ta tc) = Rx.sizeT ta + Rx.sizeT tc + 2 := by simp [Rx.sizeT]
    rw [e2] at hsz
    rw [e1]
    clear hbW hTW
    have h := hL
    have hl2 : us.length = 2 := hl
    obtain ⟨ua, hua⟩ : ∃ u, us[0]? = some u := ⟨_, List.getElem?_eq_getElem (by omega)⟩
    obtain ⟨uc, huc⟩ : ∃ u, us[1]? = some u := ⟨_, List.getElem?_eq_getElem (by omega)⟩
    have hNa := hN 0 ta ua rfl hua
    have hNc := hN 1 tc uc rfl huc
    obtain ⟨k1, la1, ka1, ln1, lc1, kn1, kc1, ng1, n1, lo1, hi1, lz1, hus⟩ := hNa.shape.ex
    subst hus
    obtain ⟨k2, la2, ka2, ln2, lc2, kn2, kc2, ng2, n2, lo2, hi2, lz2, hus⟩ := hNc.shape.ex
    subst hus
    have hn4 := hnil 4
    have hn5 := hnil 5
    obtain ⟨v, lvs, hb, hs⟩ := h.ex
    have hzl := hs.zl
    have hpb := hb.lt
    have hsl := hs.ow.sli
    refine rn ?_
    rw [hzl]
    refine rn ?_
    refine sAd tb (r := ((st.length + 1 : Nat) : Int)) ?_ (hp := by show IntKind.i64.wrap _ = _; rw [wrap_i64 (by omega) (by omega)]; omega)
    clear hsl
    (refine rn ?_); refine sBs' tb [sR ({ Rx.kOf 4 with a := st.length + 1 }) (.slice none 0 0)] (fun us W1 ho1 hs1 hx1 => ?_) (hkl := by simp [sR]) (hfill := by kernel_rfl); (refine rn ?_); refine sApp2 tb (hs.ow.to hx1) ho1.sli (fun v' W2 hv2 hg2 ho2 => ?_) (h1 := sR_one (_, _)) (hb := by rw [hzl]; simp only [List.length_cons, List.length_nil]; omega) (hl := by rw [hzl]; simp only [List.length_cons, List.length_nil]; omega) (hB := by have := hx1.size; omega); have hb2 := (hb.to hx1).grew hg2 ((hs.ow.to hx1).ne (Nat.lt_succ_self pb)); (refine rn ?_); refine sSf tb (fun W3 hb3 hw3 => ?_); have h := h.push hb hs hx1 hv2 hg2 ho2 hw3 hb3 (hn4); clear hb hs hzl hb2 hb3 hw3 hv2 hg2 ho2 ho1 hs1 hx1 hpb
    have hbW := hbG h
    have hkS := hkW _ h.kq
    try (first | refine gl tb ?_ | refine gg tb ?_ | refine ll tb ?_ | refine lg tb ?_); repeat ((first | refine G.condT rfl ?_ | refine G.condF rfl ?_ | refine sFa tb ?_ | refine sLd tb ?_ | refine sLa tb ?_ | refine sLen tb ?_ | refine sFd tb ?_ | refine sBd tb ?_ | refine sIa tb 0 ?_); try (first | refine gl tb ?_ | refine gg tb ?_ | refine ll tb ?_ | refine lg tb ?_))
    refine sCall c39 (ih ta (by simp [kidsT]) _ Q _ _ pb _ ct _ h hNa (by rw [List.length_append]; simp only [List.length_cons, List.length_nil]; omega)) ?_
    rintro _ W5 h5
    clear h hkS hbW
    have hle1 : (st ++ [{ Rx.kOf 4 with a := st.length + 1 }]).length = st.length + 1 := by simp
    rw [hle1] at h5
    obtain ⟨st2, hst2⟩ : ∃ st2, st2 = (st ++ [{ Rx.kOf 4 with a := st.length + 1 }]) ++ Rx.codeT ta (st.length + 1) := ⟨_, rfl⟩
    rw [← hst2] at h5
    have hle2 : st2.length = st.length + 1 + Rx.sizeT ta := by rw [hst2, List.length_append, Rx.codeT_len, hle1]
    have h := h5
    clear h5
    obtain ⟨v, lvs, hb, hs⟩ := h.ex
    have hzl := hs.zl
    have hpb := hb.lt
    have hsl := hs.ow.sli
    refine rn ?_
    rw [hzl]
    refine rn ?_
    clear hsl
    (refine rn ?_); refine sBs' tb [sR (Rx.kOf 5) (.slice none 0 0)] (fun us W1 ho1 hs1 hx1 => ?_) (hkl := by simp [sR]) (hfill := by kernel_rfl); (refine rn ?_); refine sApp2 tb (hs.ow.to hx1) ho1.sli (fun v' W2 hv2 hg2 ho2 => ?_) (h1 := sR_one (_, _)) (hb := by rw [hzl]; simp only [List.length_cons, List.length_nil]; omega) (hl := by rw [hzl]; simp only [List.length_cons, List.length_nil]; omega) (hB := by have := hx1.size; omega); have hb2 := (hb.to hx1).grew hg2 ((hs.ow.to hx1).ne (Nat.lt_succ_self pb)); (refine rn ?_); refine sSf tb (fun W3 hb3 hw3 => ?_); have h := h.push hb hs hx1 hv2 hg2 ho2 hw3 hb3 (hn5); clear hb hs hzl hb2 hb3 hw3 hv2 hg2 ho2 ho1 hs1 hx1 hpb
    -- the fork's other way
    obtain ⟨v, lvs, hb, hs⟩ := h.ex
    have hi4 : (st2 ++ [Rx.kOf 5])[st.length]? = some { Rx.kOf 4 with a := st.length + 1 } := by
      rw [hst2, List.append_assoc, List.append_assoc]
      exact get_at st _ _ _ rfl
    have hlt4 : st.length < (st2 ++ [Rx.kOf 5]).length := by rw [List.length_append]; omega
    obtain ⟨lv4, hlv4⟩ : ∃ lv, lvs[st.length]? = some lv := ⟨_, List.getElem?_eq_getElem (by rw [hs.len]; exact hlt4)⟩
    have hzl := hs.zl
    have how := hs.ow
    have hsl := how.sli
    have hget : (List.zipWith sR (st2 ++ [Rx.kOf 5]) lvs)[st.length]? = some (sR { Rx.kOf 4 with a := st.length + 1 } lv4) := by rw [List.getElem?_zipWith, hi4, hlv4]
    refine rn ?_
    refine sAd tb (r := ((st2.length + 1 : Nat) : Int)) ?_ (hp := by show IntKind.i64.wrap _ = _; rw [wrap_i64 (by omega) (by omega)]; omega)
    refine rn ?_
    refine sIa tb st.length ?_ (hj := fun _ => ⟨rfl, by rw [hzl]; exact hlt4⟩)
    refine rn ?_
    refine GL.cons (Step.storeRowF tb (j := st.length) (off := 2) rfl (Op1.of rfl (by first | exact fun _ => rfl | exact fun h => h | exact fun h => bL h | exact fun h => bL (bL h) | exact fun h => bL (bL (bL h)))) (Op1.of rfl (by first | exact fun _ => rfl | exact fun h => h | exact fun h => bL h | exact fun h => bL (bL h) | exact fun h => bL (bL (bL h)))) rfl rfl rfl hs.ow (by rw [hzl]; exact hlt4) (by decide) ?_)
    intro W6 ho6 hg6
    have e6 : ((List.zipWith sR (st2 ++ [Rx.kOf 5]) lvs).getD st.length []).set 2 (.int .i64 ((st2.length + 1 : Nat) : Int)) = sR { Rx.kOf 4 with a := st.length + 1, b := st2.length + 1 } lv4 := by
      rw [sR_getD hi4 hlv4]
      rfl
    rw [e6] at ho6
    have h6 := h.put (k' := { Rx.kOf 4 with a := st.length + 1, b := st2.length + 1 }) hb hs hi4 hlv4 rfl ho6 hg6
    have eq6 : (st2 ++ [Rx.kOf 5]).set st.length { Rx.kOf 4 with a := st.length + 1, b := st2.length + 1 } = (st ++ { Rx.kOf 4 with a := st.length + 1, b := st2.length + 1 } :: Rx.codeT ta (st.length + 1)) ++ [Rx.kOf 5] := by
      rw [show st2 ++ [Rx.kOf 5] = st ++ { Rx.kOf 4 with a := st.length + 1 } :: (Rx.codeT ta (st.length + 1) ++ [Rx.kOf 5]) by rw [hst2]; simp]
      rw [set_at _ _ _ _ _ rfl]
      simp
    rw [eq6] at h6
    clear hget hsl how hzl hs hb ho6 hg6 h
    have h := h6
    clear h6
    obtain ⟨st3, hst3⟩ : ∃ st3, st3 = st ++ { Rx.kOf 4 with a := st.length + 1, b := st2.length + 1 } :: Rx.codeT ta (st.length + 1) := ⟨_, rfl⟩
    rw [← hst3] at h
    have hle3 : st3.length = st2.length := by rw [hst3, hle2, List.length_append, List.length_cons, Rx.codeT_len]; omega
    have hbW := hbG h
    have hkS := hkW _ h.kq
    try (first | refine gl tb ?_ | refine gg tb ?_ | refine ll tb ?_ | refine lg tb ?_); repeat ((first | refine G.condT rfl ?_ | refine G.condF rfl ?_ | refine sFa tb ?_ | refine sLd tb ?_ | refine sLa tb ?_ | refine sLen tb ?_ | refine sFd tb ?_ | refine sBd tb ?_ | refine sIa tb 1 ?_); try (first | refine gl tb ?_ | refine gg tb ?_ | refine ll tb ?_ | refine lg tb ?_))
    refine sCall c39 (ih tc (by simp [kidsT]) _ Q _ _ pb _ ct _ h hNc (by rw [List.length_append]; simp only [List.length_cons, List.length_nil]; omega)) ?_
    rintro _ W7 h7
    clear h hkS hbW
    have h := h7
    clear h7
    have hle4 : (st3 ++ [Rx.kOf 5]).length = st2.length + 1 := by rw [List.length_append, hle3]; rfl
    rw [hle4] at h
    obtain ⟨st4, hst4⟩ : ∃ st4, st4 = (st3 ++ [Rx.kOf 5]) ++ Rx.codeT tc (st2.length + 1) := ⟨_, rfl⟩
    rw [← hst4] at h
    have hle5 : st4.length = st2.length + 1 + Rx.sizeT tc := by rw [hst4, List.length_append, Rx.codeT_len, hle4]
    obtain ⟨v, lvs, hb, hs⟩ := h.ex
    have hi5 : st4[st2.length]? = some (Rx.kOf 5) := by
      rw [hst4, List.append_assoc]
      exact get_at st3 _ _ _ hle3.symm
    have hlt5 : st2.length < st4.length := by omega
    obtain ⟨lv5, hlv5⟩ : ∃ lv, lvs[st2.length]? = some lv := ⟨_, List.getElem?_eq_getElem (by rw [hs.len]; exact hlt5)⟩
    have hzl := hs.zl
    have hget : (List.zipWith sR st4 lvs)[st2.length]? = some (sR (Rx.kOf 5) lv5) := by rw [List.getElem?_zipWith, hi5, hlv5]
    have hod := hs.ow.to (Ext.drew W7)
    have hsl := hod.sli
    have hbd := hb.to (Ext.drew W7)
    refine rn ?_
    refine G.regionM [(0, true), (1, true), (2, true), (3, true), (4, true), (5, true), (6, true), (7, true), (8, true), (9, true), (10, true), (11, true), (12, false)] (fun w' => Bx w' pb [v, .int .i64 ct]) (by kernel_rfl) (by kernel_rfl) rfl mixed (hbd) rfl ?_
    refine rd ?_
    refine dLd tb (u := v) ?_ (hc := fun w' hS _ => Bx.c0 hS (by exact rfl))
    refine rd ?_
    refine dLd tb (u := v) ?_ (hc := fun w' hS _ => Bx.c0 hS (by exact rfl))
    refine rd ?_
    refine dIa tb st2.length ?_ (hj := fun _ => ⟨rfl, by rw [hzl]; exact hlt5⟩)
    refine rd ?_
    refine GM.eff (Step.storeRowF tb (j := st2.length) (off := 1) rfl (Op1.of rfl (by first | exact fun _ => rfl | exact fun h => h | exact fun h => bL h | exact fun h => bL (bL h) | exact fun h => bL (bL (bL h)))) (Op1.of rfl (by first | exact fun _ => rfl | exact fun h => h | exact fun h => bL h | exact fun h => bL (bL h) | exact fun h => bL (bL (bL h)))) rfl rfl rfl hod (by rw [hzl]; exact hlt5) (by decide) ?_)
    intro W8 ho8 hg8
    have hb8 := hbd.grew hg8 (hod.ne (Nat.lt_succ_self pb))
    refine ⟨hb8, ?_⟩
    have e8 : ((List.zipWith sR st4 lvs).getD st2.length []).set 1 (.int .i64 ((List.zipWith sR st4 lvs).length : Int)) = sR { Rx.kOf 5 with a := st4.length } lv5 := by
      rw [sR_getD hi5 hlv5, hzl]
      rfl
    rw [e8] at ho8
    have hs' : PSt (fun g => P g ∨ g = w.heap.size) Q _ W7.drew pb v lvs st4 := ⟨hod, hs.len, hs.tr, hs.np⟩
    have h8 := (h.to (Ext.drew W7)).put (k' := { Rx.kOf 5 with a := st4.length }) hbd hs' hi5 hlv5 rfl ho8 hg8
    refine GM.nil ?_
    refine rn ?_
    refine G.end0 rfl rfl rfl ?_
    have h9 := hbk h8
    have eq8 : st4.set st2.length { Rx.kOf 5 with a := st4.length } = st ++ (Rx.forkK false (st.length + 1) (st.length + 2 + Rx.sizeT ta) :: (Rx.codeT ta (st.length + 1) ++ ({ Rx.kOf 5 with a := st.length + 2 + Rx.sizeT ta + Rx.sizeT tc } :: Rx.codeT tc (st.length + 2 + Rx.sizeT ta)))) := by
      have hq : st4 = st3 ++ Rx.kOf 5 :: Rx.codeT tc (st2.length + 1) := by rw [hst4]; simp
      rw [show st4.set st2.length { Rx.kOf 5 with a := st4.length } = (st3 ++ Rx.kOf 5 :: Rx.codeT tc (st2.length + 1)).set st2.length { Rx.kOf 5 with a := st4.length } by rw [← hq]]
      rw [set_at _ _ _ _ _ hle3.symm, hst3, hle5, hle2]
      have a1 : st.length + 1 + Rx.sizeT ta + 1 = st.length + 2 + Rx.sizeT ta := by omega
      rw [a1]
      simp [Rx.forkK]
    rw [eq8] at h9
    exact h9
end Go.Proofs.YtbpkhgehchelhaaDoor
end
section
open Go Go.Vg Go.RowKit Go.Proofs Go.Proofs.YtbpkhgehchelhaaDoor
namespace Go.Proofs.YtbpkhgehchelhaaDoor

theorem less_ok (hi by_ : Int) (w : World) (h1 : -1 ≤ hi) (h2 : hi ≤ 100) (h3 : 0 ≤ by_) (h4 : by_ ≤ 100) :
    Ret Tryd.prog 77 ⟨[.int .i64 hi, .int .i64 by_]⟩ w fun r w' => r = .int .i64 (if hi < 0 then hi else hi - by_) ∧ w' = w := by
  refine ret_of_G Tryd.func77 rfl Tryd.ntmps77 rfl ?_
  simp only [argEnv]
  refine rn ?_
  first | refine G.condD rfl (fun hc => ?_) (fun hc => ?_) | refine G.condN rfl (fun hc => ?_) (fun hc => ?_) | refine G.cond rfl (fun hc => ?_) (fun hc => ?_)
  · rw [if_pos (by omega)]
    refine rn ?_
    refine G.ret1 rfl rfl rfl rfl ?_
    exact ⟨rfl, rfl⟩
  · rw [if_neg (by omega)]
    refine rn ?_
    refine sAd tb (r := hi - by_) ?_ (hp := by show IntKind.i64.wrap _ = _; rw [wrap_i64 (by omega) (by omega)])
    refine rn ?_
    refine G.ret1 rfl rfl rfl rfl ?_
    exact ⟨rfl, rfl⟩
/-- options, of which the first j have their two ways -/
def optsM (c : Nat → List Rx.K) (n : Nat) (few : Bool) (E : Nat) : Nat → Nat → Nat → List Rx.K
  | _, 0, _ => []
  | j, k + 1, p => (if 0 < j then Rx.forkK few (p + 1) E else Rx.kOf 4) :: (c (p + 1) ++ optsM c n few E (j - 1) k (p + 1 + n))
section
variable {c : Nat → List Rx.K} {n : Nat} (hc : ∀ p, (c p).length = n) (few : Bool) (E : Nat)
include hc
theorem optsM_len : ∀ j k p, (optsM c n few E j k p).length = k * (n + 1)
  | _, 0, _ => by simp [optsM]
  | j, k + 1, p => by rw [optsM, List.length_cons, List.length_append, hc, optsM_len (j - 1) k, Nat.succ_mul]; omega
theorem optsM_snoc : ∀ k p, optsM c n few E 0 (k + 1) p = optsM c n few E 0 k p ++ Rx.kOf 4 :: c (p + k * (n + 1) + 1)
  | 0, p => by simp [optsM]
  | k + 1, p => by
    rw [optsM]
    have ih := optsM_snoc k (p + 1 + n)
    rw [show (0 - 1 : Nat) = 0 from rfl, ih]
    conv => rhs; rw [optsM]
    rw [show p + 1 + n + k * (n + 1) + 1 = p + (k + 1) * (n + 1) + 1 by rw [Nat.succ_mul]; omega]
    simp
omit hc in
theorem optsM_all : ∀ k p, optsM c n few E k k p = Rx.opts c n few E k p
  | 0, p => by simp [optsM, Rx.opts]
  | k + 1, p => by
    rw [optsM, Rx.opts, if_pos (by omega), show k + 1 - 1 = k by omega, optsM_all k]
theorem optsM_get : ∀ (j k p : Nat) (A : List Rx.K), j < k → A.length = p → (A ++ optsM c n few E j k p)[p + j * (n + 1)]? = some (Rx.kOf 4)
  | 0, k + 1, p, A, hj, hA => by
    simp only [Nat.zero_mul, Nat.add_zero]
    rw [optsM, if_neg (by omega)]
    exact get_at A _ _ _ hA.symm
  | j + 1, k + 1, p, A, hj, hA => by
    rw [optsM, if_pos (by omega), show j + 1 - 1 = j by omega]
    have := optsM_get j k (p + 1 + n) (A ++ Rx.forkK few (p + 1) E :: c (p + 1)) (by omega) (by rw [List.length_append, List.length_cons, hc, hA]; omega)
    rw [show p + 1 + n + j * (n + 1) = p + (j + 1) * (n + 1) by rw [Nat.succ_mul]; omega] at this
    rw [← this]
    congr 1
    simp
theorem optsM_turn : ∀ (j k p : Nat) (A : List Rx.K), j < k → A.length = p → (A ++ optsM c n few E j k p).set (p + j * (n + 1)) (Rx.forkK few (p + j * (n + 1) + 1) E) = A ++ optsM c n few E (j + 1) k p
  | 0, k + 1, p, A, hj, hA => by
    simp only [Nat.zero_mul, Nat.add_zero]
    rw [optsM, if_neg (by omega), set_at _ _ _ _ _ hA.symm]
    rw [optsM, if_pos (by omega)]
  | j + 1, k + 1, p, A, hj, hA => by
    rw [optsM, if_pos (by omega), show j + 1 - 1 = j by omega]
    have := optsM_turn j k (p + 1 + n) (A ++ Rx.forkK few (p + 1) E :: c (p + 1)) (by omega) (by rw [List.length_append, List.length_cons, hc, hA]; omega)
    rw [show p + 1 + n + j * (n + 1) = p + (j + 1) * (n + 1) by rw [Nat.succ_mul]; omega] at this
    rw [show A ++ Rx.forkK few (p + 1) E :: (c (p + 1) ++ optsM c n few E j k (p + 1 + n)) = (A ++ Rx.forkK few (p + 1) E :: c (p + 1)) ++ optsM c n few E j k (p + 1 + n) by simp, this]
    rw [optsM, if_pos (by omega), show j + 1 + 1 - 1 = j + 1 by omega]
    simp
omit hc in
theorem copies_snoc : ∀ k p, Rx.copies c n (k + 1) p = Rx.copies c n k p ++ c (p + k * n)
  | 0, p => by simp [Rx.copies]
  | k + 1, p => by
    rw [Rx.copies, copies_snoc k (p + n)]
    conv => rhs; rw [Rx.copies]
    rw [show p + n + k * n = p + (k + 1) * n by rw [Nat.succ_mul]; omega]
    simp
end
/-- a repeat's steps, by the limits that the reference goes by -/
theorem turnK_fork (few : Bool) (a b : Nat) : turnK (Rx.kOf 4) few a b = Rx.forkK few a b := rfl
theorem sizeT_kid {mn : Nat} {mx : Int} {few plus : Bool} {t : Rx.T} : Rx.sizeT (.rep mn mx few plus t) = Rx.sizeR (Rx.sizeT t) mn mx plus := by simp [Rx.sizeT]
theorem codeT_rep {mn : Nat} {mx : Int} {few plus : Bool} {t : Rx.T} (p : Nat) : Rx.codeT (.rep mn mx few plus t) p = Rx.repC (Rx.codeT t) (Rx.sizeT t) mn mx few plus p := by simp [Rx.codeT]
/-- the empty node lays nothing -/
theorem emit0 {P Q : Nat → Prop} (w0 w : World) (pb : Nat) (st : List Rx.K) (ct : Int) (h : PgS P Q w0 w pb st ct) :
    Ret Tryd.prog 39 ⟨[ptr pb, .agg ⟨ndC 0 (.slice none 0 0) false (.slice none 0 0) 0 0 0 false⟩]⟩ w fun _ w' => PgS P Q w0 w' pb st ct := by
  refine ret_of_G Tryd.func39 rfl Tryd.ntmps39 rfl ?_
  simp only [argEnv]
  refine rn ?_
  refine sBox (us := ndC 0 (.slice none 0 0) false (.slice none 0 0) 0 0 0 false) (fun W1 hbx hs1 hx1 => ?_) (hv := rfl)
  refine rn ?_
  refine G.end0 rfl rfl rfl ?_
  exact h.to hx1
end Go.Proofs.YtbpkhgehchelhaaDoor
end
section
open Go Go.Vg Go.RowKit Go.Proofs Go.Proofs.YtbpkhgehchelhaaDoor
namespace Go.Proofs.YtbpkhgehchelhaaDoor

theorem codeT_nil {t : Rx.T} (h : Rx.sizeT t = 0) (p : Nat) : Rx.codeT t p = [] := List.eq_nil_of_length_eq_zero (by rw [Rx.codeT_len, h])
theorem copies_nil {t : Rx.T} (h : Rx.sizeT t = 0) : ∀ k p, Rx.copies (Rx.codeT t) (Rx.sizeT t) k p = []
  | 0, p => rfl
  | k + 1, p => by rw [Rx.copies, codeT_nil h, copies_nil h k]; rfl
theorem copies_len' (t : Rx.T) (k p : Nat) : (Rx.copies (Rx.codeT t) (Rx.sizeT t) k p).length = k * Rx.sizeT t := Rx.copies_len (Rx.codeT_len t) k p
theorem PgS.wr {P Q : Nat → Prop} {w0 w w' : World} {pb x : Nat} {st : List Rx.K} {ct : Int} {v0 : Value} (h : PgS P Q w0 w pb st ct) (hb : Bx w pb [v0, .int .i64 ct]) (hw : Wr x w w') (hxp : x ≠ pb) (hP : ¬ P x) (hv : v0.ownBlock ≠ some x) : PgS P Q w0 w' pb st ct := by
  obtain ⟨v, lvs, hbv, hsv⟩ := h.ex
  have := Bx.uniq hb hbv
  simp only [List.cons.injEq] at this
  obtain ⟨rfl, -⟩ := this
  exact ⟨h.kq.trans (hw.kq hP), h.pl, h.sub, h.np, v0, lvs, hbv.wr hw (Ne.symm hxp), hsv.same fun g hg e => hw.block g (fun e2 => hv (by rw [e, e2]))⟩
section
variable {P Q : Nat → Prop} {w0 w w' : World} {pb B x : Nat} {st st' : List Rx.K} {ct ct' : Int} {fv fv' : Value} {fl : List Nat}
/-- places of forks, in a row of one's own -/
structure FkR (P : Nat → Prop) (w : World) (pb B : Nat) (fv : Value) (fl : List Nat) : Prop where
  row : Owns w B fv 3 1 (fl.map fun (i : Nat) => [Value.int .i64 i])
  ne : ∀ g, fv.ownBlock = some g → g ≠ pb ∧ ∀ (v : Value) us, Bx w pb (v :: us) → v.ownBlock ≠ some g
  np : ∀ g, fv.ownBlock = some g → ¬ P g
theorem PgS.liftV (h : PgS P Q w0 w pb st ct) (hF : FkR P w pb B fv fl) : PgS (fun g => P g ∨ fv.ownBlock = some g) Q w w pb st ct := by
  obtain ⟨v, lvs, hb, hs⟩ := h.ex
  refine ⟨Kq.refl _ _, fun g hg => hg.elim (fun hg => Nat.lt_of_lt_of_le (h.pl g hg) h.kq.size) (fun e => (hF.row.lt g e).2), fun g hg => .inl (h.sub g hg), fun e => e.elim h.np (fun e => (hF.ne pb e).1 rfl), v, lvs, hb, ⟨hs.ow, hs.len, fun i k lv h1 h2 => ?_, fun g hg e => e.elim (hs.np g hg) (fun e => (hF.ne g e).2 v _ hb hg)⟩⟩
  exact (hs.tr i k lv h1 h2).same fun b hb hA => ⟨h.kq.same b hb (h.sub b hA), hA⟩
theorem PgS.backV (h : PgS P Q w0 w pb st ct) (k : PgS (fun g => P g ∨ fv.ownBlock = some g) Q w w' pb st' ct') : PgS P Q w0 w' pb st' ct' := by
  obtain ⟨v, lvs, hb, hs⟩ := k.ex
  refine ⟨h.kq.trans (k.kq.mono fun g _ hg => .inl hg), h.pl, h.sub, h.np, v, lvs, hb, ⟨hs.ow, hs.len, fun i kk lv h1 h2 => ?_, fun g hg e => hs.np g hg (.inl e)⟩⟩
  have := hs.tr i kk lv h1 h2
  refine this.same fun b hb hA => ⟨?_, hA⟩
  have hp := h.sub b hA
  exact (h.kq.same b (h.pl b hp) hp).symm
theorem FkR.kept (hF : FkR P w pb B fv fl) (k : PgS (fun g => P g ∨ fv.ownBlock = some g) Q w w' pb st' ct') : FkR P w' pb B fv fl := by
  obtain ⟨v, lvs, hb, hs⟩ := k.ex
  refine ⟨hF.row.same fun g hg e => k.kq.same g hg (.inr e), fun g e => ⟨(hF.ne g e).1, fun v2 us hb2 e2 => ?_⟩, hF.np⟩
  have := Bx.uniq hb hb2
  simp only [List.cons.injEq] at this
  rw [← this.1] at e2
  exact hs.np g e2 (.inr e)
theorem FkR.to (hF : FkR P w pb B fv fl) (h : PgS P Q w0 w pb st ct) (hx : Ext w w') : FkR P w' pb B fv fl := by
  obtain ⟨v, lvs, hb, hs⟩ := h.ex
  refine ⟨hF.row.to hx, fun g e => ⟨(hF.ne g e).1, fun v2 us hb2 e2 => ?_⟩, hF.np⟩
  have := Bx.uniq (hb.to hx) hb2
  simp only [List.cons.injEq] at this
  rw [← this.1] at e2
  exact (hF.ne g e).2 v _ hb e2
theorem grewF (h : PgS P Q w0 w pb st ct) (hF : FkR P w pb B fv fl) (ho : Owns w' B fv' 3 1 ((fl.map fun (i : Nat) => [Value.int .i64 i]) ++ [[Value.int .i64 x]])) (hg : Grew B fv w w') (h2 : Own2 w fv fv') :
    PgS P Q w0 w' pb st ct ∧ FkR P w' pb B fv' (fl ++ [x]) := by
  obtain ⟨v, lvs, hb, hs⟩ := h.ex
  have hb' := hb.grew hg (fun e => (hF.ne pb e.symm).1 rfl)
  have hpl := hb.lt
  have hsame : ∀ (v2 : Value) us, Bx w' pb (v2 :: us) → v2 = v := fun v2 us hb2 => by
    have := Bx.uniq hb' hb2
    simp only [List.cons.injEq] at this
    exact this.1.symm
  refine ⟨⟨h.kq.trans (hg.kq hF.np), h.pl, h.sub, h.np, v, lvs, hb', hs.same fun g hgl e => hg.block g hgl (fun e2 => (hF.ne g e2.symm).2 v _ hb e)⟩, ⟨by rw [List.map_append]; exact ho, fun g e => ?_, h2.np hF.np (fun e => by have := h.pl _ e; have := h.kq.size; omega)⟩⟩
  rcases h2 with h2 | h2
  · rw [h2] at e
    exact ⟨(hF.ne g e).1, fun v2 us hb2 => by rw [hsame v2 us hb2]; exact (hF.ne g e).2 v _ hb⟩
  · rw [h2] at e
    simp only [Option.some.injEq] at e
    exact ⟨by omega, fun v2 us hb2 e3 => by rw [hsame v2 us hb2] at e3; have := (hs.ow.lt _ e3).2; omega⟩
end
/-- what a call of emit for the repeated node does -/
def EmU (t : Rx.T) (Q : Nat → Prop) (pb : Nat) (ct : Int) (u1 u : List Value) : Prop := ∀ (P' : Nat → Prop) (w0' W' : World) (st' : List Rx.K), PgS P' Q w0' W' pb st' ct → Nd w0' Q t u1 → st'.length + Rx.sizeT t ≤ 2000 →
  Ret Tryd.prog 39 ⟨[ptr pb, .agg ⟨u⟩]⟩ W' fun _ w' => PgS P' Q w0' w' pb (st' ++ Rx.codeT t st'.length) ct
set_option maxHeartbeats 8000000 in
theorem repeatE_ok (t : Rx.T) (ihe : EmitC t) (mn : Nat) (mx : Int) (few plus : Bool) : RepE (.rep mn mx few plus t) := by
  intro P Q w0 w pb st ct u h hT hsz
  cases hT with
  | mk lv kv n us hs hm hn hk hl hkl hkids =>
  obtain ⟨la, lc, hlv, -⟩ := hs.own.sli.len
  generalize ((flat (spansT (.rep mn mx few plus t))).map inC).length = ln at hlv
  subst hlv
  obtain ⟨ka, kc, hkv, -⟩ := hk.own.sli.len
  obtain ⟨kn, hkn⟩ : ∃ kn, kn = us.length := ⟨_, rfl⟩
  rw [← hkn] at hkv
  subst hkv
  obtain ⟨hn01, hnp, hn1, hmm, hbig⟩ : (n = 0 ∨ n = 1) ∧ (plus = true → mn = 1 ∧ mx = -1) ∧ (mx < 0 → mx = -1 ∧ (mn = 1 → (n = 0 ↔ plus = true))) ∧ (0 ≤ mx → (mn : Int) ≤ mx) ∧ (1 < mn → n = 1) := hn
  obtain ⟨-, -, hmn, hmx⟩ := hm
  simp only [mnT, mxT] at hmn hmx
  have hmx1 : -1 ≤ mx := by
    rcases Int.lt_or_le mx 0 with h0 | h0
    · have := (hn1 h0).1; omega
    · omega
  obtain ⟨u1, hu1⟩ : ∃ u, us[0]? = some u := ⟨_, List.getElem?_eq_getElem (by rw [hl]; simp [kidsT])⟩
  have hN0 : Nd w0 Q t u1 := hkids 0 t u1 rfl hu1
  obtain ⟨k1, la1, ka1, ln1, lc1, kn1, kc1, ng1, n1, lo1, hi1, lz1, hus⟩ := hN0.shape.ex
  subst hus
  have hl1 : us.length = 1 := hl
  obtain ⟨v0, lvs0, hb0, hs0⟩ := h.ex
  have hpbl := hb0.lt
  have hv0 : ∀ q, v0.ownBlock = some q → q < w.heap.size := fun q e => (hs0.ow.lt q e).2
  show Ret Tryd.prog 61 ⟨[ptr pb, .agg ⟨ndC 7 (.slice la ln lc) false (.slice ka kn kc) n mn mx few⟩]⟩ w _
  refine ret_of_G Tryd.func61 rfl Tryd.ntmps61 rfl ?_
  simp only [argEnv]
  refine rn ?_
  refine sBox (us := ndC 7 (.slice la ln lc) false (.slice ka kn kc) n mn mx few) (fun W1 hbx hs1 hx1 => ?_) (hv := rfl)
  have h1 := h.to hx1
  have hkS : Sli W1 (.slice ka kn kc) 8 us := ((hk.own.same fun g hg e => h.kq.same g hg (h.sub g (hk.inn g e))).sli).to hx1
  try (first | refine gl tb ?_ | refine gg tb ?_ | refine ll tb ?_ | refine lg tb ?_); repeat ((first | refine G.condT rfl ?_ | refine G.condF rfl ?_ | refine sFa tb ?_ | refine sLd tb ?_ | refine sLa tb ?_ | refine sLen tb ?_ | refine sFd tb ?_ | refine sBd tb ?_ | refine sIa tb 0 ?_); try (first | refine gl tb ?_ | refine gg tb ?_ | refine ll tb ?_ | refine lg tb ?_))
  refine sAl tb (fun W2 hb2 hs2 hx2 => ?_)
  refine rn ?_
  refine sSt tb (vs := ndC k1 (.slice la1 ln1 lc1) ng1 (.slice ka1 kn1 kc1) n1 lo1 hi1 lz1) (fun W3 hb3 hw3 => ?_) (hv := rfl) (h1 := hN0.shape.one)
  obtain ⟨eb, heb⟩ : ∃ eb, eb = W1.heap.size := ⟨_, rfl⟩
  rw [← heb] at hb2 hb3 hw3 ⊢
  have hbx1 := hbx.lt
  have hwe : w.heap.size < eb := by omega
  have hk13 : Kq (fun g => g < eb) W1 W3 := hx2.kq.trans (hw3.kq (by omega))
  have hb03 : Bx W3 pb [v0, .int .i64 ct] := ((hb0.to hx1).to hx2).wr hw3 (by omega)
  have hbx3 := (hbx.to hx2).wr hw3 (by omega)
  have h3 : PgS P Q w0 W3 pb st ct := by
    refine ⟨(h1.kq.trans hx2.kq).trans (hw3.kq (fun e => by have := h.pl _ e; have := h.kq.size; omega)), h.pl, h.sub, h.np, v0, lvs0, hb03, ?_⟩
    exact hs0.same fun g hg e => (hw3.block g (by omega)).trans ((hx2.block g (by omega)).trans (hx1.block g hg))
  have hN3 := h3.node hN0
  clear hbx hb2 hs1 hs2 hx1 hx2 hw3 h1 hkS hk13
  refine rn ?_
  refine sCall c38 (sizeR_all t W3 Q _ hN3) ?_
  rintro _ W4 ⟨rfl, hx4⟩
  have h4 := h3.to hx4
  have hbx4 := hbx3.to hx4
  have hb4 := hb3.to hx4
  have hb04 := hb03.to hx4
  clear h3 hbx3 hb3 hb03 hN3 hx4
  refine rn ?_
  refine G.join (fun _ : Nat × Int × List Value => [(0, none, ptr pb), (3, none, ptr w.heap.size), (4, none, ptr eb)])
    (fun p W' => PgS P Q w0 W' pb st ct ∧ Bx W' pb [v0, .int .i64 ct] ∧ Bx W' w.heap.size (ndC 7 (.slice la ln lc) false (.slice ka kn kc) n p.1 p.2.1 few) ∧ Bx W' eb p.2.2 ∧ NdS p.2.2 ∧ EmU t Q pb ct (ndC k1 (.slice la1 ln1 lc1) ng1 (.slice ka1 kn1 kc1) n1 lo1 hi1 lz1) p.2.2 ∧
      (p.1 = mn ∧ p.2.1 = mx ∨ Rx.sizeT t = 0 ∧ 1 < mn ∧ p.1 = 1 ∧ p.2.1 = if mx < 0 then mx else mx - (mn - 1))) ?_ ?_
  rotate_left
  · first | refine G.condD rfl (fun hc => ?_) (fun hc => ?_) | refine G.condN rfl (fun hc => ?_) (fun hc => ?_) | refine G.cond rfl (fun hc => ?_) (fun hc => ?_)
    · have hz : Rx.sizeT t = 0 := Rx.szC_zero.1 (by omega)
      have hE0 : EmU t Q pb ct (ndC k1 (.slice la1 ln1 lc1) ng1 (.slice ka1 kn1 kc1) n1 lo1 hi1 lz1) (ndC 0 (.slice none 0 0) false (.slice none 0 0) 0 0 0 false) := fun P' w0' W' st' hp _ _ => by
        rw [codeT_nil hz, List.append_nil]
        exact emit0 w0' W' pb st' ct hp
      refine rn ?_
      refine sSt tb (vs := ndC 0 (.slice none 0 0) false (.slice none 0 0) 0 0 0 false) (fun W5 hb5 hw5 => ?_) (hv := rfl) (h1 := node_nil.one)
      have hbx5 := hbx4.wr hw5 (by omega)
      have hb05 := hb04.wr hw5 (by omega)
      have hnP : ∀ x, w.heap.size ≤ x → ¬ P x := fun x hx e => by have := h.pl _ e; have := h.kq.size; omega
      have hnv : ∀ x, w.heap.size ≤ x → v0.ownBlock ≠ some x := fun x hx e => by have := hv0 _ e; omega
      have h5 := h4.wr hb04 hw5 (by omega) (hnP _ (by omega)) (hnv _ (by omega))
      refine rn ?_
      first | refine G.condD rfl (fun hc => ?_) (fun hc => ?_) | refine G.condN rfl (fun hc => ?_) (fun hc => ?_) | refine G.cond rfl (fun hc => ?_) (fun hc => ?_)
      · have hm1 : 1 < mn := by omega
        refine rn ?_
        refine sAd tb (r := ((mn - 1 : Nat) : Int)) ?_ (hp := by show IntKind.i64.wrap _ = _; rw [wrap_i64 (by omega) (by omega)]; omega)
        refine rn ?_
        refine sCall c77 (less_ok mx ((mn - 1 : Nat) : Int) W5 (by omega) (by omega) (by omega) (by omega)) ?_
        rintro _ W6 ⟨rfl, h6⟩
        subst h6
        obtain ⟨hi', hhi⟩ : ∃ hi' : Int, hi' = if mx < 0 then mx else mx - ((mn - 1 : Nat) : Int) := ⟨_, rfl⟩
        rw [← hhi]
        refine rn ?_
        refine sSf tb (fun W7 hb7 hw7 => ?_)
        have hbx7 : Bx W7 w.heap.size (ndC 7 (.slice la ln lc) false (.slice ka kn kc) n mn hi' few) := hb7
        have hb57 := hb5.wr hw7 (by omega)
        have hb07 := hb05.wr hw7 (by omega)
        have h7 := h5.wr hb05 hw7 (by omega) (hnP _ (by omega)) (hnv _ (by omega))
        clear hbx5 hb7
        refine rn ?_
        refine sSf tb (fun W8 hb8 hw8 => ?_)
        have hb8 : Bx W8 w.heap.size (ndC 7 (.slice la ln lc) false (.slice ka kn kc) n 1 hi' few) := hb8
        refine rn ?_
        refine G.met (1, hi', _) (by repeat (first | exact Sub.nil _ | refine Sub.cons rfl ?_)) ⟨h7.wr hb07 hw8 (by omega) (hnP _ (by omega)) (hnv _ (by omega)), hb07.wr hw8 (by omega), hb8, hb57.wr hw8 (by omega), node_nil, hE0, .inr ⟨hz, hm1, rfl, ?_⟩⟩
        show hi' = _
        rw [hhi]
        split <;> omega
      · refine rn ?_
        refine G.met (mn, mx, _) (by repeat (first | exact Sub.nil _ | refine Sub.cons rfl ?_)) ⟨h5, hb05, hbx5, hb5, node_nil, hE0, .inl ⟨rfl, rfl⟩⟩
    · have hz : ¬ Rx.sizeT t = 0 := fun e => hc (by have := (Rx.szC_zero (t := t)).2 e; omega)
      refine rn ?_
      refine G.met (mn, mx, _) (by repeat (first | exact Sub.nil _ | refine Sub.cons rfl ?_)) ⟨h4, hb04, hbx4, hb4, hN0.shape, fun P' w0' W' st' hp hN hl => ihe P' Q w0' W' pb st' ct _ hp hN hl, .inl ⟨rfl, rfl⟩⟩
  clear hbx4 hb4 hb04 h4
  rintro ⟨L, H, ue⟩ B2 ⟨h2, hb02, hbx2, hbe2, hshe, hEm, hlim⟩
  simp only at hbx2 hbe2 hshe hEm hlim
  obtain ⟨k2, la2, ka2, ln2, lc2, kn2, kc2, ng2, n2, lo2, hi2, lz2, hue⟩ := hshe.ex
  subst hue
  -- the limits, as far as they matter
  have hHneg : H < 0 ↔ mx < 0 := by
    rcases hlim with ⟨rfl, rfl⟩ | ⟨_, _, rfl, rfl⟩
    · exact Iff.rfl
    · split <;> omega
  have hdiff : 0 ≤ mx → H - (L : Int) = mx - (mn : Int) := fun h0 => by
    rcases hlim with ⟨rfl, rfl⟩ | ⟨_, _, rfl, rfl⟩
    · rfl
    · rw [if_neg (by omega)]; omega
  have hplus : (H < 0 ∧ L = 1 ∧ n = 0) ↔ plus = true := by
    constructor
    · rintro ⟨a1, a2, a3⟩
      rcases hlim with ⟨rfl, rfl⟩ | ⟨_, hm1, _, _⟩
      · exact ((hn1 a1).2 a2).1 a3
      · have := hbig hm1; omega
    · intro hp
      obtain ⟨a1, a2⟩ := hnp hp
      rcases hlim with ⟨rfl, rfl⟩ | ⟨_, hm1, _, _⟩
      · exact ⟨by omega, a1, ((hn1 (by omega)).2 a1).2 hp⟩
      · omega
  have hLn : L * Rx.sizeT t = mn * Rx.sizeT t := by
    rcases hlim with ⟨rfl, _⟩ | ⟨hz, _⟩
    · rfl
    · rw [hz]; simp
  have hcop : ∀ p, Rx.copies (Rx.codeT t) (Rx.sizeT t) L p = Rx.copies (Rx.codeT t) (Rx.sizeT t) mn p := fun p => by
    rcases hlim with ⟨rfl, _⟩ | ⟨hz, _⟩
    · rfl
    · rw [copies_nil hz, copies_nil hz]
  have hLb : L ≤ 100 := by omega
  rw [sizeT_kid] at hsz
  rw [codeT_rep]
  have hxw : w.heap.size < B2.heap.size := hbx2.lt
  have hew : eb < B2.heap.size := hbe2.lt
  have hL1 := h2.lift hxw (by omega) (fun v us hb e => by
    have := Bx.uniq hb02 hb
    simp only [List.cons.injEq] at this
    rw [← this.1] at e
    have := hv0 _ e
    omega)
  have hL2 := hL1.lift hew (by omega) (fun v us hb e => by
    have := Bx.uniq hb02 hb
    simp only [List.cons.injEq] at this
    rw [← this.1] at e
    have := hv0 _ e
    omega)
  obtain ⟨P2, hP2⟩ : ∃ P2 : Nat → Prop, P2 = fun g => (P g ∨ g = w.heap.size) ∨ g = eb := ⟨_, rfl⟩
  rw [← hP2] at hL2
  have hbk : ∀ {W : World} {st' : List Rx.K}, PgS P2 Q B2 W pb st' ct → PgS P Q w0 W pb st' ct := fun k => by
    subst hP2
    exact h2.back (hL1.back k)
  have hbX : ∀ {W : World} {st' : List Rx.K}, PgS P2 Q B2 W pb st' ct → Bx W w.heap.size (ndC 7 (.slice la ln lc) false (.slice ka kn kc) n L H few) := fun k => k.box hbx2 (by rw [hP2]; exact .inl (.inr rfl))
  have hbE : ∀ {W : World} {st' : List Rx.K}, PgS P2 Q B2 W pb st' ct → Bx W eb (ndC k2 (.slice la2 ln2 lc2) ng2 (.slice ka2 kn2 kc2) n2 lo2 hi2 lz2) := fun k => k.box hbe2 (by rw [hP2]; exact .inr rfl)
  have hN2 : Nd B2 Q t (ndC k1 (.slice la1 ln1 lc1) ng1 (.slice ka1 kn1 kc1) n1 lo1 hi1 lz1) := h2.node hN0
  have hEm2 : ∀ (W : World) (st' : List Rx.K), PgS P2 Q B2 W pb st' ct → st'.length + Rx.sizeT t ≤ 2000 → _ := fun W st' k hl => hEm P2 B2 W st' k hN2 hl
  clear h2 hb02 hL1
  have hn4 : RowA B2 Q (.slice none 0 0) 3 1 ((flat (Rx.kOf 4).l).map inC) := RowA.nil _ _ _ _
  have hn5 : RowA B2 Q (.slice none 0 0) 3 1 ((flat (Rx.kOf 5).l).map inC) := RowA.nil _ _ _ _
  refine rn ?_
  first | refine G.condD rfl (fun hc => ?_) (fun hc => ?_) | refine G.condN rfl (fun hc => ?_) (fun hc => ?_) | refine G.cond rfl (fun hc => ?_) (fun hc => ?_)
  · have hp : plus = true := hplus.1 (by simp only [Bool.and_eq_true, decide_eq_true_eq] at hc; omega)
    have hR : Rx.repC (Rx.codeT t) (Rx.sizeT t) mn mx few plus st.length = Rx.codeT t st.length ++ [Rx.forkK few st.length (st.length + Rx.sizeT t + 1)] := by unfold Rx.repC; rw [if_pos hp]
    have hsz1 : st.length + Rx.sizeT t + 1 ≤ 2000 := by unfold Rx.sizeR at hsz; rw [if_pos hp] at hsz; omega
    rw [hR]
    clear hc
    have h := hL2
    obtain ⟨v, lvs, hb, hs⟩ := h.ex
    have hzl := hs.zl
    have hsl := hs.ow.sli
    have hbe := hbE h
    refine rn ?_
    rw [hzl]
    refine rn ?_
    refine sCall c39 (hEm2 B2 st h (by omega)) ?_
    rintro _ B3 h3
    clear h hb hs hzl hsl hbe
    have h := h3
    clear h3
    obtain ⟨st2, hst2⟩ : ∃ st2, st2 = st ++ Rx.codeT t st.length := ⟨_, rfl⟩
    rw [← hst2] at h
    have hl2 : st2.length = st.length + Rx.sizeT t := by rw [hst2, List.length_append, Rx.codeT_len]
    obtain ⟨v, lvs, hb, hs⟩ := h.ex
    have hzl := hs.zl
    have hpb := hb.lt
    have hsl := hs.ow.sli
    refine rn ?_
    rw [hzl]
    refine rn ?_
    clear hsl
    (refine rn ?_); refine sBs' tb [sR (Rx.kOf 4) (.slice none 0 0)] (fun us W1 ho1 hs1 hx1 => ?_) (hkl := by simp [sR]) (hfill := by kernel_rfl); (refine rn ?_); refine sApp2 tb (hs.ow.to hx1) ho1.sli (fun v' W2 hv2 hg2 ho2 => ?_) (h1 := sR_one (_, _)) (hb := by rw [hzl]; simp only [List.length_cons, List.length_nil]; omega) (hl := by rw [hzl]; simp only [List.length_cons, List.length_nil]; omega) (hB := by have := hx1.size; omega); have hb2 := (hb.to hx1).grew hg2 ((hs.ow.to hx1).ne (Nat.lt_succ_self pb)); (refine rn ?_); refine sSf tb (fun W3 hb3 hw3 => ?_); have h := h.push hb hs hx1 hv2 hg2 ho2 hw3 hb3 (hn4); clear hb hs hzl hb2 hb3 hw3 hv2 hg2 ho2 ho1 hs1 hx1 hpb
    have hbx := hbX h
    have hi4 : (st2 ++ [Rx.kOf 4])[st2.length]? = some (Rx.kOf 4) := get_at st2 [] _ _ rfl
    refine rn ?_
    refine sAd tb (r := ((st2.length + 1 : Nat) : Int)) ?_ (hp := by show IntKind.i64.wrap _ = _; rw [wrap_i64 (by omega) (by omega)]; omega)
    refine rn ?_
    refine sCall c78 (turnR_ok B2 _ pb _ ct st2.length st.length (st2.length + 1) few _ h hi4 rfl) ?_
    rintro _ B5 h5
    refine rn ?_
    refine G.ret0 rfl rfl rfl ?_
    have h6 := hbk h5
    rw [set_at st2 [] _ _ _ rfl, turnK_fork, hl2, hst2, List.append_assoc] at h6
    exact h6
  have hp : plus = false := by
    rcases hpl : plus with _ | _
    · rfl
    · exfalso
      have := hplus.2 hpl
      revert hc
      simp only [imp_false, Bool.not_eq_false, Bool.and_eq_true, decide_eq_true_eq]
      omega
  clear hc
  have hR : Rx.repC (Rx.codeT t) (Rx.sizeT t) mn mx few plus st.length = Rx.copies (Rx.codeT t) (Rx.sizeT t) L st.length ++ (if mx < 0 then Rx.forkK few (st.length + L * Rx.sizeT t + 1) (st.length + L * Rx.sizeT t + Rx.sizeT t + 2) :: (Rx.codeT t (st.length + L * Rx.sizeT t + 1) ++ [{ Rx.kOf 5 with a := st.length + L * Rx.sizeT t }])
    else Rx.opts (Rx.codeT t) (Rx.sizeT t) few (st.length + L * Rx.sizeT t + (mx.toNat - mn) * (Rx.sizeT t + 1)) (mx.toNat - mn) (st.length + L * Rx.sizeT t)) := by
    unfold Rx.repC; rw [if_neg (by rw [hp]; simp), hcop, hLn]
  have hsz1 : st.length + (L * Rx.sizeT t + (if mx < 0 then Rx.sizeT t + 2 else (mx.toNat - mn) * (Rx.sizeT t + 1))) ≤ 2000 := by
    unfold Rx.sizeR at hsz; rw [if_neg (by rw [hp]; simp), ← hLn] at hsz; exact hsz
  rw [hR]
  clear hR hsz
  have hq0 : L * Rx.sizeT t ≤ 2000 := by omega
  refine rn ?_
  refine (G.loop (fun k : Nat => [(0, none, ptr pb), (3, none, ptr w.heap.size), (4, none, ptr eb), (7, none, .int .i64 k)]) (fun k W => PgS P2 Q B2 W pb (st ++ Rx.copies (Rx.codeT t) (Rx.sizeT t) k st.length) ct ∧ k ≤ L) (fun k => L - k) 0 (by repeat (first | exact Sub.nil _ | refine Sub.cons rfl ?_)) ⟨by simpa [Rx.copies] using hL2, Nat.zero_le _⟩ ?_)
  rintro k W ⟨h, hkL⟩
  have hbx := hbX h
  have hbe := hbE h
  refine rn ?_
  first | refine G.condD rfl (fun hc => ?_) (fun hc => ?_) | refine G.condN rfl (fun hc => ?_) (fun hc => ?_) | refine G.cond rfl (fun hc => ?_) (fun hc => ?_)
  · have hlt : k < L := by omega
    have hkn : (k + 1) * Rx.sizeT t ≤ L * Rx.sizeT t := Nat.mul_le_mul_right _ hlt
    rw [Nat.succ_mul] at hkn
    refine rn ?_
    refine sCall c39 (hEm2 W _ h (by rw [List.length_append, copies_len']; omega)) ?_
    rintro _ B3 h3
    rw [List.length_append, copies_len', List.append_assoc, ← copies_snoc] at h3
    refine rn ?_
    refine sAd tb (r := ((k + 1 : Nat) : Int)) ?_
    refine rn ?_
    exact G.lp (x := k) (k + 1) (by repeat (first | exact Sub.nil _ | refine Sub.cons rfl ?_)) ⟨h3, hlt⟩ (by omega)
  have hkL : k = L := by omega
  subst hkL
  obtain ⟨st1, hst1⟩ : ∃ st1, st1 = st ++ Rx.copies (Rx.codeT t) (Rx.sizeT t) k st.length := ⟨_, rfl⟩
  rw [← hst1] at h
  have hl1' : st1.length = st.length + k * Rx.sizeT t := by rw [hst1, List.length_append, copies_len']
  rw [← List.append_assoc, ← hst1, ← hl1']
  rw [← Nat.add_assoc, ← hl1'] at hsz1
  clear hc
  refine rn ?_
  first | refine G.condD rfl (fun hc => ?_) (fun hc => ?_) | refine G.condN rfl (fun hc => ?_) (fun hc => ?_) | refine G.cond rfl (fun hc => ?_) (fun hc => ?_)
  · have hm0 : mx < 0 := hHneg.1 (by omega)
    rw [if_pos hm0] at hsz1 ⊢
    clear hc hbx hbe
    obtain ⟨v, lvs, hb, hs⟩ := h.ex
    have hzl := hs.zl
    have hpb := hb.lt
    have hsl := hs.ow.sli
    refine rn ?_
    rw [hzl]
    refine rn ?_
    clear hsl
    (refine rn ?_); refine sBs' tb [sR (Rx.kOf 4) (.slice none 0 0)] (fun us W1 ho1 hs1 hx1 => ?_) (hkl := by simp [sR]) (hfill := by kernel_rfl); (refine rn ?_); refine sApp2 tb (hs.ow.to hx1) ho1.sli (fun v' W2 hv2 hg2 ho2 => ?_) (h1 := sR_one (_, _)) (hb := by rw [hzl]; simp only [List.length_cons, List.length_nil]; omega) (hl := by rw [hzl]; simp only [List.length_cons, List.length_nil]; omega) (hB := by have := hx1.size; omega); have hb2 := (hb.to hx1).grew hg2 ((hs.ow.to hx1).ne (Nat.lt_succ_self pb)); (refine rn ?_); refine sSf tb (fun W3 hb3 hw3 => ?_); have h := h.push hb hs hx1 hv2 hg2 ho2 hw3 hb3 (hn4); clear hb hs hzl hb2 hb3 hw3 hv2 hg2 ho2 ho1 hs1 hx1 hpb
    have hbe := hbE h
    refine rn ?_
    refine sCall c39 (hEm2 _ _ h (by rw [List.length_append]; simp only [List.length_cons, List.length_nil]; omega)) ?_
    rintro _ B5 h5
    clear h hbe
    have hle1 : (st1 ++ [Rx.kOf 4]).length = st1.length + 1 := by simp
    rw [hle1] at h5
    obtain ⟨st2, hst2⟩ : ∃ st2, st2 = (st1 ++ [Rx.kOf 4]) ++ Rx.codeT t (st1.length + 1) := ⟨_, rfl⟩
    rw [← hst2] at h5
    have hl2 : st2.length = st1.length + 1 + Rx.sizeT t := by rw [hst2, List.length_append, Rx.codeT_len, hle1]
    have h := h5
    clear h5
    have hn5a : RowA B2 Q (.slice none 0 0) 3 1 ((flat ({ Rx.kOf 5 with a := st1.length } : Rx.K).l).map inC) := RowA.nil _ _ _ _
    obtain ⟨v, lvs, hb, hs⟩ := h.ex; have hzl := hs.zl; have hpb := hb.lt; (refine rn ?_); refine sBs' tb [sR ({ Rx.kOf 5 with a := st1.length }) (.slice none 0 0)] (fun us W1 ho1 hs1 hx1 => ?_) (hkl := by simp [sR]) (hfill := by kernel_rfl); (refine rn ?_); refine sApp2 tb (hs.ow.to hx1) ho1.sli (fun v' W2 hv2 hg2 ho2 => ?_) (h1 := sR_one (_, _)) (hb := by rw [hzl]; simp only [List.length_cons, List.length_nil]; omega) (hl := by rw [hzl]; simp only [List.length_cons, List.length_nil]; omega) (hB := by have := hx1.size; omega); have hb2 := (hb.to hx1).grew hg2 ((hs.ow.to hx1).ne (Nat.lt_succ_self pb)); (refine rn ?_); refine sSf tb (fun W3 hb3 hw3 => ?_); have h := h.push hb hs hx1 hv2 hg2 ho2 hw3 hb3 (hn5a); clear hb hs hzl hb2 hb3 hw3 hv2 hg2 ho2 ho1 hs1 hx1 hpb
    have hbx := hbX h
    obtain ⟨v, lvs, hb, hs⟩ := h.ex
    have hzl := hs.zl
    have hsl := hs.ow.sli
    have hle3 : (st2 ++ [{ Rx.kOf 5 with a := st1.length }]).length = st2.length + 1 := by simp
    rw [hle3] at hzl
    have hi4 : (st2 ++ [{ Rx.kOf 5 with a := st1.length }])[st1.length]? = some (Rx.kOf 4) := by
      rw [hst2, List.append_assoc, List.append_assoc]
      exact get_at st1 _ _ _ rfl
    refine rn ?_
    refine G.regionZ 11 [(0, true), (1, true), (2, true), (3, true), (4, true), (5, true), (6, true), (7, true), (8, true), (9, true), (10, true)] (Ext W3) (by kernel_rfl) (by kernel_rfl) rfl mixed (Ext.drew W3) rfl rfl ?_
    refine rd ?_
    refine dAd tb (r := ((st1.length + 1 : Nat) : Int)) ?_
    refine rd ?_
    rw [hzl]
    refine GM.nil ?_
    refine Step.p (Step.callF rfl rfl rfl c78 rfl (turnR_ok B2 _ pb _ ct st1.length (st1.length + 1) (st2.length + 1) few _ (h.to (Ext.drew W3)) hi4 rfl) ?_)
    rintro _ B7 h7
    refine rn ?_
    refine G.ret0 rfl rfl rfl ?_
    have h8 := hbk h7
    have eq8 : (st2 ++ [{ Rx.kOf 5 with a := st1.length }]).set st1.length (turnK (Rx.kOf 4) few (st1.length + 1) (st2.length + 1)) = st1 ++ (Rx.forkK few (st1.length + 1) (st1.length + Rx.sizeT t + 2) :: (Rx.codeT t (st1.length + 1) ++ [{ Rx.kOf 5 with a := st1.length }])) := by
      rw [show st2 ++ [{ Rx.kOf 5 with a := st1.length }] = st1 ++ Rx.kOf 4 :: (Rx.codeT t (st1.length + 1) ++ [{ Rx.kOf 5 with a := st1.length }]) by rw [hst2]; simp]
      rw [set_at _ _ _ _ _ rfl, turnK_fork, show st2.length + 1 = st1.length + Rx.sizeT t + 2 by omega]
    rw [eq8] at h8
    exact h8
  have hm0 : 0 ≤ mx := by
    rcases Int.lt_or_le mx 0 with h0 | h0
    · exact absurd (hHneg.2 h0) (by omega)
    · exact h0
  have hmn2 := hmm hm0
  have hd := hdiff hm0
  rw [if_neg (by omega)] at hsz1 ⊢
  obtain ⟨K, hK⟩ : ∃ K, K = mx.toNat - mn := ⟨_, rfl⟩
  rw [← hK] at hsz1 ⊢
  have hHK : H = (k : Int) + K := by omega
  clear hc hbe
  refine rn ?_
  obtain ⟨E, hE⟩ : ∃ E, E = st1.length + K * (Rx.sizeT t + 1) := ⟨_, rfl⟩
  have hcl := Rx.codeT_len t
  have hebw : eb + 1 ≤ W.heap.size := by have := h.kq.size; omega
  refine (G.loop (fun p : Nat × Value => [(0, none, ptr pb), (3, none, ptr w.heap.size), (4, none, ptr eb), (9, none, p.2), (10, none, .int .i64 ((k + p.1 : Nat) : Int))])
    (fun p W => PgS P2 Q B2 W pb (st1 ++ optsM (Rx.codeT t) (Rx.sizeT t) few E 0 p.1 st1.length) ct ∧ FkR P2 W pb (eb + 1) p.2 ((List.range p.1).map fun i => st1.length + i * (Rx.sizeT t + 1)) ∧ p.1 ≤ K ∧ eb + 1 ≤ W.heap.size) (fun p => K - p.1) (0, .slice none 0 0) (by repeat (first | exact Sub.nil _ | refine Sub.cons rfl ?_))
    ⟨by simpa [optsM] using h, ⟨Owns.nil _ _ _ _, fun g e => by simp [Value.ownBlock] at e, fun g e => by simp [Value.ownBlock] at e⟩, Nat.zero_le _, hebw⟩ ?_)
  clear h hebw hbx
  rintro ⟨j, fv⟩ B3 ⟨h, hF, hj, hB3⟩
  simp only at h hF hj
  show G _ _ [(0, none, ptr pb), (3, none, ptr w.heap.size), (4, none, ptr eb), (9, none, fv), (10, none, .int .i64 ((k + j : Nat) : Int))] B3
  have hbx := hbX h
  have hol := optsM_len hcl few E 0 j st1.length
  have hjK : j * (Rx.sizeT t + 1) ≤ K * (Rx.sizeT t + 1) := Nat.mul_le_mul_right _ hj
  have hKb : K ≤ 100 := by omega
  refine rn ?_
  first | refine G.condD rfl (fun hc => ?_) (fun hc => ?_) | refine G.condN rfl (fun hc => ?_) (fun hc => ?_) | refine G.cond rfl (fun hc => ?_) (fun hc => ?_)
  · have hlt : j < K := by omega
    have hjK1 : (j + 1) * (Rx.sizeT t + 1) ≤ K * (Rx.sizeT t + 1) := Nat.mul_le_mul_right _ hlt
    rw [Nat.succ_mul] at hjK1
    clear hc
    obtain ⟨stj, hstj⟩ : ∃ stj, stj = st1 ++ optsM (Rx.codeT t) (Rx.sizeT t) few E 0 j st1.length := ⟨_, rfl⟩
    rw [← hstj] at h
    have hlj : stj.length = st1.length + j * (Rx.sizeT t + 1) := by rw [hstj, List.length_append, hol]
    obtain ⟨v, lvs, hb, hs⟩ := h.ex
    have hzl := hs.zl
    have hsl := hs.ow.sli
    refine rn ?_
    rw [hzl]
    refine sBs' tb [[.int .i64 (stj.length : Nat)]] (fun us8 B7 ho7 hs7 hx7 => ?_)
    refine rn ?_
    have hF7 := hF.to h hx7
    have hfl : (List.map (fun (i : Nat) => [Value.int .i64 i]) ((List.range j).map fun i => st1.length + i * (Rx.sizeT t + 1))).length = j := by simp
    refine sApp2 tb hF7.row ho7.sli (fun fv' B8 ho8 hg8 h28 => ?_) (hb := by rw [hfl]; simp only [List.length_cons, List.length_nil]; omega) (hl := by rw [hfl]; simp only [List.length_cons, List.length_nil]; omega) (hB := by have := hx7.size; omega)
    obtain ⟨hP8, hF8⟩ := grewF (h.to hx7) hF7 ho8 hg8 h28
    have hN8 := hP8.node hN2
    have hn4b : RowA B8 Q (.slice none 0 0) 3 1 ((flat (Rx.kOf 4).l).map inC) := RowA.nil _ _ _ _
    have hB8 : eb + 1 ≤ B8.heap.size := Nat.le_trans (Nat.le_trans hB3 hx7.size) hg8.size
    clear hb hs hzl hsl hbx
    have h := hP8.liftV hF8
    obtain ⟨v, lvs, hb, hs⟩ := h.ex; have hzl := hs.zl; have hpb := hb.lt; (refine rn ?_); refine sBs' tb [sR (Rx.kOf 4) (.slice none 0 0)] (fun us W1 ho1 hs1 hx1 => ?_) (hkl := by simp [sR]) (hfill := by kernel_rfl); (refine rn ?_); refine sApp2 tb (hs.ow.to hx1) ho1.sli (fun v' W2 hv2 hg2 ho2 => ?_) (h1 := sR_one (_, _)) (hb := by rw [hzl]; simp only [List.length_cons, List.length_nil]; omega) (hl := by rw [hzl]; simp only [List.length_cons, List.length_nil]; omega) (hB := by have := hx1.size; omega); have hb2 := (hb.to hx1).grew hg2 ((hs.ow.to hx1).ne (Nat.lt_succ_self pb)); (refine rn ?_); refine sSf tb (fun W3 hb3 hw3 => ?_); have h := h.push hb hs hx1 hv2 hg2 ho2 hw3 hb3 (hn4b); clear hb hs hzl hb2 hb3 hw3 hv2 hg2 ho2 ho1 hs1 hx1 hpb
    have hbe := hbE (hP8.backV h)
    refine rn ?_
    refine sCall c39 (hEm _ B8 _ _ h hN8 (by rw [List.length_append]; simp only [List.length_cons, List.length_nil]; omega)) ?_
    rintro _ B9 h9
    have hh := hP8.backV h9
    have hF9 := hF8.kept h9
    have hB9 : eb + 1 ≤ B9.heap.size := Nat.le_trans hB8 h9.kq.size
    rw [List.length_append, hlj, hstj] at hh
    have eqj : st1 ++ optsM (Rx.codeT t) (Rx.sizeT t) few E 0 j st1.length ++ [Rx.kOf 4] ++ Rx.codeT t (st1.length + j * (Rx.sizeT t + 1) + [Rx.kOf 4].length) = st1 ++ optsM (Rx.codeT t) (Rx.sizeT t) few E 0 (j + 1) st1.length := by
      rw [optsM_snoc hcl few E j st1.length]
      simp
    rw [eqj] at hh
    have eqf : (List.range j).map (fun i => st1.length + i * (Rx.sizeT t + 1)) ++ [stj.length] = (List.range (j + 1)).map fun i => st1.length + i * (Rx.sizeT t + 1) := by
      rw [List.range_succ, List.map_append, hlj]; rfl
    rw [eqf] at hF9
    refine rn ?_
    refine sAd tb (r := ((k + (j + 1) : Nat) : Int)) ?_ (hp := by show IntKind.i64.wrap _ = _; rw [wrap_i64 (by omega) (by omega)]; omega)
    refine rn ?_
    exact G.lp (x := (j, fv)) (j + 1, fv') (by repeat (first | exact Sub.nil _ | refine Sub.cons rfl ?_)) ⟨hh, hF9, hlt, hB9⟩ (by simp only; omega)
  have hjK2 : j = K := by omega
  subst hjK2
  clear hc hbx
  refine rn ?_
  refine (G.loop (fun i : Nat => [(0, none, ptr pb), (3, none, ptr w.heap.size), (9, none, fv), (11, none, .int .i64 i)])
    (fun i W => PgS P2 Q B2 W pb (st1 ++ optsM (Rx.codeT t) (Rx.sizeT t) few E i j st1.length) ct ∧ FkR P2 W pb (eb + 1) fv ((List.range j).map fun i => st1.length + i * (Rx.sizeT t + 1)) ∧ i ≤ j) (fun i => j - i) 0 (by repeat (first | exact Sub.nil _ | refine Sub.cons rfl ?_)) ⟨h, hF, Nat.zero_le _⟩ ?_)
  clear h hF
  rintro i B4 ⟨h, hF, hij⟩
  have hfr := hF.row
  have hfs := hfr.sli
  have hfl : (List.map (fun (i : Nat) => [Value.int .i64 i]) ((List.range j).map fun i => st1.length + i * (Rx.sizeT t + 1))).length = j := by simp
  refine rn ?_
  rw [hfl]
  refine rn ?_
  first | refine G.condD rfl (fun hc => ?_) (fun hc => ?_) | refine G.condN rfl (fun hc => ?_) (fun hc => ?_) | refine G.cond rfl (fun hc => ?_) (fun hc => ?_)
  · have hlt : i < j := by omega
    have hil : i * (Rx.sizeT t + 1) ≤ j * (Rx.sizeT t + 1) := Nat.mul_le_mul_right _ hij
    clear hc
    have hx5 := Ext.drew B4
    have h5 := h.to hx5
    have hF5 := hF.to h hx5
    obtain ⟨B5, hB5⟩ : ∃ B5, B5 = B4.drew := ⟨_, rfl⟩
    have hget : (List.map (fun (i : Nat) => [Value.int .i64 i]) ((List.range j).map fun i => st1.length + i * (Rx.sizeT t + 1)))[i]? = some [.int .i64 ((st1.length + i * (Rx.sizeT t + 1) : Nat) : Int)] := by
      rw [List.getElem?_map, List.getElem?_map, List.getElem?_range hlt]; rfl
    obtain ⟨sti, hsti⟩ : ∃ sti, sti = st1 ++ optsM (Rx.codeT t) (Rx.sizeT t) few E i j st1.length := ⟨_, rfl⟩
    have hli : sti.length = E := by rw [hsti, List.length_append, optsM_len hcl, hE]
    have hgi : sti[st1.length + i * (Rx.sizeT t + 1)]? = some (Rx.kOf 4) := by rw [hsti]; exact optsM_get hcl few E i j st1.length st1 hlt rfl
    rw [← hsti] at h h5
    have hbx := hbX h5
    obtain ⟨v, lvs, hb, hs⟩ := h5.ex
    have hzl := hs.zl
    have hsl := hs.ow.sli
    have hfs5 := hF5.row.sli
    have hEb : E ≤ 2000 := by omega
    refine rn ?_
    refine G.regionZ 17 [(0, true), (1, true), (2, true), (3, true), (4, true), (5, true), (6, true), (7, true), (8, true), (9, true), (10, true), (11, true), (12, true), (13, true), (14, true), (15, true), (16, true)] (Ext B4.drew) (by kernel_rfl) (by kernel_rfl) rfl mixed (Ext.refl _) rfl rfl ?_
    refine rd ?_
    refine dIa tb i ?_ (hj := fun _ => ⟨rfl, by rw [hfl]; exact hlt⟩)
    refine rd ?_
    refine dIa tb i ?_ (hj := fun _ => ⟨rfl, by rw [hfl]; exact hlt⟩)
    refine rd ?_
    refine dAd tb (r := ((st1.length + i * (Rx.sizeT t + 1) + 1 : Nat) : Int)) ?_ (hp := by show IntKind.i64.wrap _ = _; rw [wrap_i64 (by omega) (by omega)]; omega)
    refine rd ?_
    rw [hzl, hli]
    refine GM.nil ?_
    refine Step.p (Step.callF rfl rfl rfl c78 rfl (turnR_ok _ _ pb _ ct (st1.length + i * (Rx.sizeT t + 1)) (st1.length + i * (Rx.sizeT t + 1) + 1) E few _ (h5.liftV hF5) hgi rfl) ?_)
    rintro _ B7 h7
    have hh := h5.backV h7
    have hF7 := hF5.kept h7
    rw [turnK_fork, hsti, optsM_turn hcl few E i j st1.length st1 hlt rfl] at hh
    refine rn ?_
    refine sAd tb (r := ((i + 1 : Nat) : Int)) ?_
    refine rn ?_
    exact G.lp (x := i) (i + 1) (by repeat (first | exact Sub.nil _ | refine Sub.cons rfl ?_)) ⟨hh, hF7, hlt⟩ (by omega)
  have hij2 : i = j := by omega
  subst hij2
  refine rn ?_
  refine G.end0 rfl rfl rfl ?_
  have := hbk h
  rw [optsM_all, hE] at this
  exact this
theorem emit_all (t : Rx.T) : EmitC t := by
  refine Rx.T.rec (motive_1 := fun t => EmitC t) (motive_2 := fun l => ∀ t ∈ l, EmitC t) ?_ ?_ ?_ ?_ ?_ ?_ ?_ ?_ ?_ ?_ t
  · exact emit_step _ (fun t' h => by simp [kidsT] at h) (fun _ _ _ _ _ h => by cases h)
  · intro l neg; exact emit_step _ (fun t' h => by simp [kidsT] at h) (fun _ _ _ _ _ h => by cases h)
  · exact emit_step _ (fun t' h => by simp [kidsT] at h) (fun _ _ _ _ _ h => by cases h)
  · exact emit_step _ (fun t' h => by simp [kidsT] at h) (fun _ _ _ _ _ h => by cases h)
  · intro n t ih; exact emit_step _ (fun t' h => by simp [kidsT] at h; subst h; exact ih) (fun _ _ _ _ _ h => by cases h)
  · intro l ih; exact emit_step _ (fun t' h => ih t' (by simpa [kidsT] using h)) (fun _ _ _ _ _ h => by cases h)
  · intro a b iha ihb; exact emit_step _ (fun t' h => by simp [kidsT] at h; rcases h with rfl | rfl; exact iha; exact ihb) (fun _ _ _ _ _ h => by cases h)
  · intro mn mx few plus t ih
    exact emit_step _ (fun t' h => by simp [kidsT] at h; subst h; exact ih) (fun mn' mx' few' plus' t' h => by cases h; exact repeatE_ok t ih mn mx few plus)
  · intro t h; simp at h
  · intro t l iht ihl t' h
    rcases List.mem_cons.1 h with rfl | h
    · exact iht
    · exact ihl t' h
end Go.Proofs.YtbpkhgehchelhaaDoor
end
section
open Go Go.Vg Go.RowKit Go.Proofs Go.Proofs.YtbpkhgehchelhaaDoor
namespace Go.Proofs.YtbpkhgehchelhaaDoor

/-- a compiled expression of the reference in memory, its blocks of a set -/
structure PrR (w : World) (A : Nat → Prop) (pb : Nat) (st : List Rx.K) (g : Nat) : Prop where
  at_ : A pb
  ex : ∃ v lvs, Bx w pb [v, .int .i64 g] ∧ Owns w 0 v 90 5 (List.zipWith sR st lvs) ∧ (∀ b, v.ownBlock = some b → A b) ∧ lvs.length = st.length ∧
    ∀ (i : Nat) (k : Rx.K) (lv : Value), st[i]? = some k → lvs[i]? = some lv → RowA w A lv 3 1 ((flat k.l).map inC)
  le : st.length ≤ 2000
theorem PrR.same {A A' : Nat → Prop} {w w' : World} {pb : Nat} {st : List Rx.K} {g : Nat} (h : PrR w A pb st g) (hs : ∀ b, b < w.heap.size → A b → w'.heap[b]? = w.heap[b]? ∧ A' b) : PrR w' A' pb st g := by
  obtain ⟨ha, ⟨v, lvs, hbx, how, hA, hl, htr⟩, hle⟩ := h
  have h1 := hs pb hbx.lt ha
  exact ⟨h1.2, ⟨v, lvs, hbx.same h1.1, how.same fun b hb e => (hs b hb (hA b e)).1, fun b e => (hs b (how.lt b e).2 (hA b e)).2, hl, fun i k lv hi hp => (htr i k lv hi hp).same hs⟩, hle⟩
theorem PrR.to {A : Nat → Prop} {w w' : World} {pb : Nat} {st : List Rx.K} {g : Nat} (h : PrR w A pb st g) (hx : Ext w w') : PrR w' A pb st g := h.same fun b hb hA => ⟨hx.block b hb, hA⟩
/-- what Compile gives -/
def CompR (s : List UInt8) (w : World) (r : Value) (w' : World) : Prop :=
  Ext w w' ∧ ((∃ t g pb, Rx.comp s = .ok (t, g) ∧ PrR w' (fun b => w.heap.size ≤ b) pb (Rx.progT (Rx.rot t)) g ∧ r = .tuple ⟨[ptr pb, .int .i64 0, .int .i64 0]⟩) ∨
    (∃ e f, Rx.comp s = .error (e, f) ∧ r = .tuple ⟨[.pointer none, .int .i64 (e : Nat), .int .i64 (if f = 1 then 8 else 9)]⟩))
set_option maxHeartbeats 4000000 in
theorem compileR_ok (w : World) (s : List UInt8) (hl : s.length ≤ 9223372036854775807) : Ret Tryd.prog 12 ⟨[S s]⟩ w (CompR s w) := by
  refine ret_of_G Tryd.func12 rfl Tryd.ntmps12 rfl ?_
  simp only [argEnv]
  refine rn ?_
  first | refine G.condD rfl (fun hc => ?_) (fun hc => ?_) | refine G.condN rfl (fun hc => ?_) (fun hc => ?_) | refine G.cond rfl (fun hc => ?_) (fun hc => ?_)
  · have hc1 : 256 < s.length := by omega
    refine rn ?_
    refine G.ret3 rfl rfl rfl rfl rfl rfl ?_
    refine ⟨Ext.refl _, .inr ⟨0, 2, ?_, rfl⟩⟩
    unfold Rx.comp; rw [if_pos hc1]
  have hc1 : ¬ 256 < s.length := by omega
  clear hc
  have hcp : Rx.comp s = match Rx.readP s with | .error e => .error (e, 1) | .ok (t, g) => if 2000 < Rx.sizeT t + 1 then .error (0, 2) else .ok (t, g) := by unfold Rx.comp; rw [if_neg hc1]; rfl
  rw [Rx.read_altD] at hcp
  refine rn ?_
  refine sBox (us := [S s, .int .i64 0, .int .i64 (-1), .int .i64 0]) (fun W1 hb1 hs1 hx1 => ?_) (hv := rfl)
  have hr1 : RN W1 w.heap.size s 0 0 := ⟨hb1, Nat.zero_le _, by omega, Nat.zero_le _⟩
  have hx01 : w.heap.size < W1.heap.size := hb1.lt
  refine rn ?_
  refine sCall c37 (altR_all (s.length + 1) W1 w.heap.size s 0 0 false hr1 (Nat.le_refl _) (by omega)) ?_
  rintro _ W2 ⟨cs, rfl, hk2, hsh, hres⟩
  have hx2 := hx1.ofKp hk2 (Nat.le_refl _)
  obtain ⟨k0, la0, ka0, ln0, lc0, kn0, kc0, ng0, n0, lo0, hi0, lz0, hcs⟩ := hsh.ex
  have hw12 := hk2.size
  refine rn ?_
  refine sAl tb (fun W3 hb3 hs3 hx3 => ?_)
  refine rn ?_
  refine sSt tb (vs := cs) (fun W4 hb4 hw4 => ?_) (hv := rfl) (hs := hsh.len) (h1 := hsh.one)
  have hx4 : Ext w W4 := (hx2.trans hx3).wr hw4 (by omega)
  have hs24 : W2.heap.size < W4.heap.size := hb4.lt
  rw [hcs] at hb4
  rcases hres with ⟨t, a, g, hE, hga, hT, hr2⟩ | ⟨e, hE, a', g', ha', hre⟩
  rotate_left
  · rw [hE] at hcp
    have hbx : Bx W4 w.heap.size [S s, .int .i64 (a' : Nat), .int .i64 (e : Nat), .int .i64 (g' : Nat)] := (Bx.to hre hx3).wr hw4 (by omega)
    have hbd := hbx.to (Ext.drew W4)
    refine rn ?_
    refine G.regionM [(0, true), (1, true), (2, true), (3, true), (4, true), (5, true), (6, true)] (Ext W4) (by kernel_rfl) (by kernel_rfl) rfl mixed (Ext.drew W4) rfl ?_
    refine rd ?_
    refine GM.nil ?_
    refine rn ?_
    refine G.ret3 rfl rfl rfl rfl rfl rfl ?_
    exact ⟨hx4.trans (Ext.drew W4), .inr ⟨e, 1, hcp, rfl⟩⟩
  rw [hE] at hcp
  simp only at hcp
  have hr4 : RN W4 w.heap.size s a g := (hr2.to hx3).kp hw4.kp (by omega)
  have hT4 : Nd W4 (fun b => W1.heap.size ≤ b ∧ b < W4.heap.size) (Rx.rot t) cs := by
    have hT2 : Nd W2 (fun b => W1.heap.size ≤ b ∧ b < W2.heap.size) (Rx.rot t) cs := hT.same fun q hq hA => ⟨rfl, hA, hq⟩
    exact hT2.same fun q hq hA => ⟨(hw4.block q (by have := hA.2; omega)).trans (hx3.block q hq), hA.1, by have := hA.2; omega⟩
  have hbx := hr4.bx
  have hgl := hr4.gl
  have hsz := Rx.szC_le (Rx.rot t)
  have hss := @Rx.szC_small (Rx.rot t)
  rw [Rx.size_rot] at hss
  refine rn ?_
  rw [← hcs] at hb4 ⊢
  refine sCall c38 (sizeR_all (Rx.rot t) W4 _ cs hT4) ?_
  rintro _ W5 ⟨rfl, hx5⟩
  have hx05 := hx4.trans hx5
  have hb5 := hb4.to hx5
  rw [hcs] at hb5
  clear hb4
  have hr5 := hr4.to hx5
  have hT5 : Nd W5 (fun b => W1.heap.size ≤ b ∧ b < W5.heap.size) (Rx.rot t) cs := hT4.same fun q hq hA => ⟨hx5.block q hq, hA.1, by have := hx5.size; have := hA.2; omega⟩
  clear hbx
  have hbx := hr5.bx
  refine rn ?_
  refine sAd tb (r := ((Rx.szC (Rx.rot t) + 1 : Nat) : Int)) ?_
  refine rn ?_
  first | refine G.condD rfl (fun hc => ?_) (fun hc => ?_) | refine G.condN rfl (fun hc => ?_) (fun hc => ?_) | refine G.cond rfl (fun hc => ?_) (fun hc => ?_)
  · have h2 : 2000 < Rx.sizeT t + 1 := hss.1 (by omega)
    rw [if_pos h2] at hcp
    refine rn ?_
    refine G.ret3 rfl rfl rfl rfl rfl rfl ?_
    exact ⟨hx05, .inr ⟨0, 2, hcp, rfl⟩⟩
  have h2 : ¬ 2000 < Rx.sizeT t + 1 := fun h => hc (by have := hss.2 h; omega)
  rw [if_neg h2] at hcp
  clear hc
  refine rn ?_
  refine sBox (us := [.slice none 0 0, .int .i64 (g : Nat)]) (fun W6 hb6 hs6 hx6 => ?_) (hv := rfl)
  have hp0 : PgS (fun b => b < W5.heap.size) (fun b => W1.heap.size ≤ b ∧ b < W5.heap.size) W5 W6 W5.heap.size [] (g : Nat) :=
    ⟨hx6.kq, fun b hb => hb, fun b hb => hb.2, Nat.lt_irrefl _, ⟨.slice none 0 0, [], hb6, ⟨Owns.nil _ _ _ _, rfl, fun i k p h => by simp at h, fun g h => by cases h⟩⟩⟩
  have hb6' := hb5.to hx6
  clear hb5
  refine rn ?_
  rw [← hcs] at hb6' ⊢
  refine sCall c39 (emit_all (Rx.rot t) _ _ W5 W6 _ [] _ cs hp0 hT5 (by rw [Rx.size_rot]; simp only [List.length_nil]; omega)) ?_
  rintro _ W7 h7
  simp only [List.nil_append, List.length_nil] at h7
  have h := h7
  clear h7 hb6 hs6
  obtain ⟨st2, hst2⟩ : ∃ st2, st2 = Rx.codeT (Rx.rot t) 0 := ⟨_, rfl⟩
  rw [← hst2] at h
  have hl2 : st2.length ≤ 1999 := by rw [hst2, Rx.codeT_len, Rx.size_rot]; omega
  obtain ⟨m, hm⟩ : ∃ m, m = W1.heap.size := ⟨_, rfl⟩
  have hmw : w.heap.size ≤ m := by omega
  rw [← hm] at h
  obtain ⟨pb, hpe⟩ : ∃ p, p = W5.heap.size := ⟨_, rfl⟩
  rw [← hpe] at h ⊢
  have hn6 : RowA W5 (fun b => m ≤ b ∧ b < pb) (.slice none 0 0) 3 1 ((flat (Rx.kOf 6).l).map inC) := RowA.nil _ _ _ _
  obtain ⟨v, lvs, hb, hs⟩ := h.ex; have hzl := hs.zl; have hpb := hb.lt; (refine rn ?_); refine sBs' tb [sR (Rx.kOf 6) (.slice none 0 0)] (fun us W1 ho1 hs1 hx1 => ?_) (hkl := by simp [sR]) (hfill := by kernel_rfl); (refine rn ?_); refine sApp2 tb (hs.ow.to hx1) ho1.sli (fun v' W2 hv2 hg2 ho2 => ?_) (h1 := sR_one (_, _)) (hb := by rw [hzl]; simp only [List.length_cons, List.length_nil]; omega) (hl := by rw [hzl]; simp only [List.length_cons, List.length_nil]; omega) (hB := by have := hx1.size; omega); have hb2 := (hb.to hx1).grew hg2 ((hs.ow.to hx1).ne (Nat.lt_succ_self pb)); (refine rn ?_); refine sSf tb (fun W3 hb3 hw3 => ?_); have h := h.push hb hs hx1 hv2 hg2 ho2 hw3 hb3 (hn6); clear hb hs hzl hb2 hb3 hw3 hv2 hg2 ho2 ho1 hs1 hx1 hpb
  refine rn ?_
  refine G.ret3 rfl rfl rfl rfl rfl rfl ?_
  obtain ⟨v, lvs, hb, hs⟩ := h.ex
  have hkq := h.kq
  have hpr : Rx.progT (Rx.rot t) = st2 ++ [Rx.kOf 6] := by rw [hst2]; rfl
  refine ⟨⟨hkq.os.trans hx05.os, hkq.tape.trans hx05.tape, hkq.output.trans hx05.output, Nat.le_trans hx05.size hkq.size, fun b hb => (hkq.same b (Nat.lt_of_lt_of_le hb hx05.size) (by have := hx05.size; omega)).trans (hx05.block b hb)⟩, .inl ⟨t, g, pb, hcp, ?_, rfl⟩⟩
  rw [hpr]
  refine ⟨by have := hx05.size; omega, ⟨v, lvs, hb, hs.ow.mono (Nat.zero_le _), fun b e => ?_, hs.len, fun i k p hi hp => (hs.tr i k p hi hp).same fun b hb hQ => ?_⟩, ?_⟩
  · have := (hs.ow.lt b e).1; have := hx05.size; omega
  · exact ⟨hkq.same b hb hQ.2, by have := hQ.1; omega⟩
  · simp only [List.length_append, List.length_cons, List.length_nil]; omega
end Go.Proofs.YtbpkhgehchelhaaDoor
end
section
open Go Go.Vg Go.RowKit Go.Proofs Go.Proofs.YtbpkhgehchelhaaDoor
namespace Go.Proofs.YtbpkhgehchelhaaDoor

def bC (b : Bool) : List Value := [.bool b]
/-- a try of the reference in memory -/
structure TryR (w : World) (tb_ pb : Nat) (x : List UInt8) (sv : Value) (seen : List Bool) : Prop where
  bx : Bx w tb_ [ptr pb, S x, sv]
  own : Owns w 0 sv 4 1 (seen.map bC)
  nt : sv.ownBlock ≠ some tb_
/-- what from tells -/
def FromP (w : World) (tb_ pb : Nat) (x : List UInt8) (sv : Value) (res : Option (List Int) × List Bool) (r : Value) (w' : World) : Prop :=
  Kq (fun b => sv.ownBlock ≠ some b) w w' ∧ TryR w' tb_ pb x sv res.2 ∧
    ((res.1 = none ∧ ∃ v, r = .tuple ⟨[v, .bool false]⟩) ∨
     ∃ l v, res.1 = some l ∧ Owns w' 0 v 3 1 (l.map inC) ∧ (∀ b, v.ownBlock = some b → sv.ownBlock ≠ some b) ∧ r = .tuple ⟨[v, .bool true]⟩)
theorem int_one {l : List Int} : ∀ y ∈ l.map inC, ∀ c ∈ y, c.oneCell' = true := by
  intro y hy c hc
  obtain ⟨n, _, rfl⟩ := List.mem_map.1 hy
  simp only [inC, List.mem_cons, List.not_mem_nil, or_false] at hc
  subst hc; rfl
theorem _root_.Go.Vg.Bx.part {w : World} {b : Nat} {us vs : List Value} (h : Bx w b us) {off : Nat} (hv : ∀ i u, vs[i]? = some u → us[off + i]? = some u) : CellsAt w (padd (ptr b) off) vs := by
  obtain ⟨a, ha, hs, hc⟩ := h.cells
  refine ⟨a.add off, by rw [ha]; rfl, Go.Vg.Addr.add_spot a hs off, fun i u hi => ?_⟩
  rw [Go.Vg.Addr.add_add a hs]
  exact hc _ _ (hv i u hi)
set_option maxHeartbeats 4000000 in
theorem from_ok (tb_ pb g : Nat) (x : List UInt8) (sv : Value) (st : List Rx.K) (A : Nat → Prop) (hw : Rx.WfP st g) (hA : ∀ b, A b → sv.ownBlock ≠ some b) (hxl : x.length ≤ 100000) (hgl : g ≤ 100000) :
    ∀ (n p i : Nat) (notes : List Int) (seen : List Bool) (w : World) (nv : Value), PrR w A pb st g → TryR w tb_ pb x sv seen → seen.length = st.length * (x.length + 1) → notes.length = 2 * g + 2 →
      Owns w 0 nv 3 1 (notes.map inC) → (∀ b, nv.ownBlock = some b → sv.ownBlock ≠ some b) → p < st.length → i ≤ x.length → Rx.unsn seen < n →
      Ret Tryd.prog 41 ⟨[ptr tb_, .int .i64 p, .int .i64 i, nv]⟩ w (FromP w tb_ pb x sv (Rx.frm st x n p i notes seen)) := by
  intro n
  induction n using Nat.strongRecOn with
  | _ n IH =>
  intro p0 i0 notes0 seen0 w nv0 hP hT hsl hnl hno hnn hp hi hu
  refine ret_of_G Tryd.func41 rfl Tryd.ntmps41 rfl ?_
  simp only [argEnv]
  refine rn ?_
  refine (G.loop (fun y : (Nat × Nat × Nat) × List Int × List Bool × Value => [(0, none, ptr tb_), (1, none, .int .i64 y.1.2.1), (2, none, .int .i64 y.1.2.2), (3, none, y.2.2.2)])
    (fun y W => Kq (fun b => sv.ownBlock ≠ some b) w W ∧ PrR W A pb st g ∧ TryR W tb_ pb x sv y.2.2.1 ∧ y.2.2.1.length = st.length * (x.length + 1) ∧ y.2.1.length = 2 * g + 2 ∧
      Owns W 0 y.2.2.2 3 1 (y.2.1.map inC) ∧ (∀ b, y.2.2.2.ownBlock = some b → sv.ownBlock ≠ some b) ∧ y.1.2.1 < st.length ∧ y.1.2.2 ≤ x.length ∧ Rx.unsn y.2.2.1 < y.1.1 ∧ y.1.1 ≤ n ∧
      Rx.frm st x y.1.1 y.1.2.1 y.1.2.2 y.2.1 y.2.2.1 = Rx.frm st x n p0 i0 notes0 seen0) (fun y => y.1.1)
    ((n, p0, i0), notes0, seen0, nv0) (by repeat (first | exact Sub.nil _ | refine Sub.cons rfl ?_)) ⟨Kq.refl _ _, hP, hT, hsl, hnl, hno, hnn, hp, hi, hu, Nat.le_refl _, rfl⟩ ?_)
  clear hP hT hsl hnl hno hnn hp hi hu
  rintro ⟨⟨f, p, i⟩, notes, seen, nv⟩ W ⟨hkq, hP, hT, hsl, hnl, hno, hnn, hp, hi, hu, hfn, hE⟩
  simp only at hkq hP hT hsl hnl hno hnn hp hi hu hfn hE
  show G _ _ [(0, none, ptr tb_), (1, none, .int .i64 p), (2, none, .int .i64 i), (3, none, nv)] W
  obtain ⟨f, rfl⟩ : ∃ m, f = m + 1 := ⟨f - 1, by omega⟩
  have hle := hP.le
  have hix := Rx.ix_lt hp hi
  rw [← hsl] at hix
  have hpw := Nat.mul_le_mul (show p ≤ 2000 by omega) (show x.length + 1 ≤ 100001 by omega)
  have hmulp : IntKind.i64.wrap ((p : Int) * ((x.length + 1 : Nat) : Int)) = ((p * (x.length + 1) : Nat) : Int) := by
    rw [← Int.natCast_mul]
    exact wrap_i64 (by omega) (by omega)
  rw [Rx.frm] at hE
  obtain ⟨q, hpq⟩ : ∃ q, q = p * (x.length + 1) := ⟨_, rfl⟩
  rw [← hpq] at hmulp hix hpw hE
  have hsm : (seen.map bC).length = seen.length := by simp
  have hss := hT.own.sli
  have hbx := hT.bx
  obtain ⟨bb, hbb⟩ : ∃ bb, seen[q + i]? = some bb := ⟨_, List.getElem?_eq_getElem hix⟩
  have hgs : (seen.map bC)[q + i]? = some [.bool bb] := by rw [List.getElem?_map, hbb]; rfl
  have hgd : seen.getD (q + i) true = bb := by rw [List.getD_eq_getElem?_getD, hbb]; rfl
  rw [hgd] at hE
  refine rn ?_
  refine sAd tb (r := ((x.length + 1 : Nat) : Int)) ?_
  refine rn ?_
  refine sAd tb (r := ((q : Nat) : Int)) (hp := hmulp) ?_
  refine rn ?_
  refine sAd tb (a := ((q : Nat) : Int)) (b := ((i : Nat) : Int)) (r := ((q + i : Nat) : Int)) ?_
  refine rn ?_
  refine sIa tb (q + i) ?_ (hj := fun _ => ⟨rfl, by rw [hsm]; exact hix⟩)
  refine rn ?_
  cases bb
  rotate_left
  · refine rn ?_
    refine G.ret2 rfl rfl rfl rfl rfl ?_
    rw [if_pos rfl] at hE
    refine ⟨hkq, by rw [← hE]; exact hT, .inl ⟨by rw [← hE], _, rfl⟩⟩
  have hus := Rx.unsn_set hgd
  rw [if_neg (by decide)] at hE
  refine rn ?_
  refine sIa tb (q + i) ?_ (hj := fun _ => ⟨rfl, by rw [hsm]; exact hix⟩)
  refine rn ?_
  refine sStR tb (j := q + i) (vs := [.bool true]) hT.own (by rw [hsm]; exact hix) (fun W2 ho2 hg2 => ?_)
  have hk2 : Kq (fun b => sv.ownBlock ≠ some b) W W2 := hg2.kq (fun g h => by rw [h]; simp)
  have hT2 : TryR W2 tb_ pb x sv (seen.set (q + i) true) := ⟨hT.bx.grew hg2 (fun e => hT.nt e.symm), by rw [List.map_set]; exact ho2, hT.nt⟩
  have hP2 : PrR W2 A pb st g := hP.same fun b hb hb' => ⟨hk2.same b hb (hA b hb'), hb'⟩
  have hno2 : Owns W2 0 nv 3 1 (notes.map inC) := hno.same fun g hg e => hk2.same g hg (hnn g e)
  have hkq2 := hkq.trans hk2
  clear ho2 hg2 hk2 hT hP hno hkq hgs hgd hss hbx
  have hbx := hT2.bx
  obtain ⟨_, ⟨pv, lvs, hpbx, how, hpA, hpl, htr⟩, _⟩ := id hP2
  have hpsl := how.sli
  have hzl : (List.zipWith sR st lvs).length = st.length := by rw [List.length_zipWith, hpl, Nat.min_self]
  obtain ⟨k, hk⟩ : ∃ k, st[p]? = some k := ⟨_, List.getElem?_eq_getElem hp⟩
  obtain ⟨lv, hlv⟩ : ∃ lv, lvs[p]? = some lv := ⟨_, List.getElem?_eq_getElem (by rw [hpl]; exact hp)⟩
  have hgst : (List.zipWith sR st lvs)[p]? = some (sR k lv) := by rw [List.getElem?_zipWith, hk, hlv]
  have hrow := htr p k lv hk hlv
  rw [hk] at hE
  simp only at hE
  refine rn ?_
  refine sIa tb p ?_ (hj := fun _ => ⟨rfl, by rw [hzl]; exact hp⟩)
  have hs1 : ∀ c ∈ sR k lv, c.oneCell' = true := by
    intro c hc
    have h1 := hrow.own.sli.one lv (by simp)
    simp only [sR, List.mem_cons, List.not_mem_nil, or_false] at hc
    rcases hc with rfl | rfl | rfl | rfl | rfl <;> first | exact h1 | rfl
  refine rn ?_
  refine sAl tb (fun W3 hb3 hs3 hx3 => ?_)
  refine rn ?_
  refine sSt tb (vs := sR k lv) (fun W4 hb4 hw4 => ?_) (h1 := hs1)
  have hx4 : Ext W2 W4 := hx3.wr hw4 (Nat.le_refl _)
  have hkq4 := hkq2.trans hx4.kq
  have hP4 := hP2.to hx4
  have hT4 : TryR W4 tb_ pb x sv (seen.set (q + i) true) := ⟨hT2.bx.to hx4, hT2.own.to hx4, hT2.nt⟩
  have hno4 := hno2.to hx4
  have hsl4 : (seen.set (q + i) true).length = st.length * (x.length + 1) := by rw [List.length_set]; exact hsl
  have hlv4 := hrow.own.sli.to hx4
  have hkk := hw.kind p k hk
  have hnx := hw.next p k hk
  have hka := hw.a p k hk
  have hkb := hw.b p k hk
  have hks := hw.slot p k hk
  obtain ⟨sn, hsn⟩ : ∃ sn, sn = seen.set (q + i) true := ⟨_, rfl⟩
  rw [← hsn] at hT4 hsl4 hus hE
  have hs2v : ∀ b, sv.ownBlock = some b → b < W2.heap.size := fun b e => (hT2.own.lt b e).2
  clear hbb hsn hT2 hno2 hkq2 hP2 hx4 hx3 hw4 hb3 hgst hpbx how hpsl hs3 hbx
  have hbx := hT4.bx
  obtain ⟨kd, kl, kn, ks, ka, kb⟩ := k
  simp only at hkk hnx hka hkb hks hE hlv4
  rcases (show kd = 0 ∨ kd = 1 ∨ kd = 2 ∨ kd = 3 ∨ kd = 4 ∨ kd = 5 ∨ kd = 6 by omega) with rfl | rfl | rfl | rfl | rfl | rfl | rfl
  · simp only at hE
    have hnx := hnx (by decide)
    refine rn ?_
    first | refine G.condD rfl (fun hc => ?_) (fun hc => ?_) | refine G.condN rfl (fun hc => ?_) (fun hc => ?_) | refine G.cond rfl (fun hc => ?_) (fun hc => ?_)
    · have hce : i = x.length := by omega
      rw [if_pos hce] at hE
      refine rn ?_
      refine G.ret2 rfl rfl rfl rfl rfl ?_
      exact ⟨hkq4, by rw [← hE]; exact hT4, .inl ⟨by rw [← hE], _, rfl⟩⟩
    · have hce : ¬ i = x.length := by omega
      have hlt : i < x.length := by omega
      rw [if_neg hce] at hE
      have hdl := Rx.dec_le hlt
      refine rn ?_
      refine sCall c64 (char_okR x i W4 (by omega) hlt) ?_
      rintro _ W5 ⟨rfl, hx5⟩
      generalize Rx.dec x i = dd at hE hdl ⊢
      obtain ⟨dc, dn⟩ := dd
      simp only at hE hdl
      have hb5 := hb4.to hx5
      have hlv5 := hlv4.to hx5
      have hcl := hb5.part (off := 3) (vs := [lv, .bool kn]) (fun i u h => by rcases i with _ | _ | i <;> simp at h <;> subst h <;> rfl)
      clear hb4 hbx
      refine rn ?_
      refine sCall c65 (hasR_ok kl kn dc lv W5 hlv5) ?_
      rintro _ W6 ⟨rfl, hx6⟩
      have hx46 := hx5.trans hx6
      have hT6 : TryR W6 tb_ pb x sv sn := ⟨hT4.bx.to hx46, hT4.own.to hx46, hT4.nt⟩
      cases hh : Rx.has kl kn dc
      · rw [if_neg (by rw [hh]; decide)] at hE
        refine rn ?_
        refine G.ret2 rfl rfl rfl rfl rfl ?_
        exact ⟨hkq4.trans hx46.kq, by rw [← hE]; exact hT6, .inl ⟨by rw [← hE], _, rfl⟩⟩
      · rw [if_pos hh] at hE
        refine rn ?_
        refine sAd tb (r := ((i + dn : Nat) : Int)) (hp := wrap_i64 (n := ((i : Nat) : Int) + dn) (by omega) (by omega)) ?_
        refine rn ?_
        refine sAd tb (r := ((p + 1 : Nat) : Int)) (hp := wrap_i64 (n := ((p : Nat) : Int) + 1) (by omega) (by omega)) ?_
        refine rn ?_
        exact G.lp (x := ((f + 1, p, i), notes, seen, nv)) ((f, p + 1, i + dn), notes, sn, nv) (by repeat (first | exact Sub.nil _ | refine Sub.cons rfl ?_)) ⟨hkq4.trans hx46.kq, hP4.to hx46, hT6, hsl4, hnl, hno4.to hx46, hnn, hnx, by simp only; omega, by simp only; omega, by simp only; omega, hE⟩ (by simp only; omega)
  · simp only at hE
    have hnx := hnx (by decide)
    refine rn ?_
    first | refine G.condD rfl (fun hc => ?_) (fun hc => ?_) | refine G.condN rfl (fun hc => ?_) (fun hc => ?_) | refine G.cond rfl (fun hc => ?_) (fun hc => ?_)
    · have hce : 0 < i := by omega
      rw [if_pos hce] at hE
      refine rn ?_
      refine G.ret2 rfl rfl rfl rfl rfl ?_
      exact ⟨hkq4, by rw [← hE]; exact hT4, .inl ⟨by rw [← hE], _, rfl⟩⟩
    · have hce : ¬ 0 < i := by omega
      rw [if_neg hce] at hE
      refine rn ?_
      refine sAd tb (r := ((p + 1 : Nat) : Int)) (hp := wrap_i64 (n := ((p : Nat) : Int) + 1) (by omega) (by omega)) ?_
      refine rn ?_
      exact G.lp (x := ((f + 1, p, i), notes, seen, nv)) ((f, p + 1, i), notes, sn, nv) (by repeat (first | exact Sub.nil _ | refine Sub.cons rfl ?_)) ⟨hkq4, hP4, hT4, hsl4, hnl, hno4, hnn, hnx, hi, by simp only; omega, by simp only; omega, hE⟩ (by simp only; omega)
  · simp only at hE
    have hnx := hnx (by decide)
    refine rn ?_
    first | refine G.condD rfl (fun hc => ?_) (fun hc => ?_) | refine G.condN rfl (fun hc => ?_) (fun hc => ?_) | refine G.cond rfl (fun hc => ?_) (fun hc => ?_)
    · have hce : i < x.length := by omega
      rw [if_pos hce] at hE
      refine rn ?_
      refine G.ret2 rfl rfl rfl rfl rfl ?_
      exact ⟨hkq4, by rw [← hE]; exact hT4, .inl ⟨by rw [← hE], _, rfl⟩⟩
    · have hce : ¬ i < x.length := by omega
      rw [if_neg hce] at hE
      refine rn ?_
      refine sAd tb (r := ((p + 1 : Nat) : Int)) (hp := wrap_i64 (n := ((p : Nat) : Int) + 1) (by omega) (by omega)) ?_
      refine rn ?_
      exact G.lp (x := ((f + 1, p, i), notes, seen, nv)) ((f, p + 1, i), notes, sn, nv) (by repeat (first | exact Sub.nil _ | refine Sub.cons rfl ?_)) ⟨hkq4, hP4, hT4, hsl4, hnl, hno4, hnn, hnx, hi, by simp only; omega, by simp only; omega, hE⟩ (by simp only; omega)
  · simp only at hE
    have hnx := hnx (by decide)
    have hks := hks rfl
    refine rn ?_
    refine sBs' tb ([] : List (List Value)) (fun us W5 ho5 hs5 hx5 => ?_)
    have hb5 := hb4.to hx5
    refine rn ?_
    refine sApp tb ho5 (hno4.to hx5).sli (fun v' W6 ho6 hg6 => ?_) (h1 := int_one) (hb := by simp only [List.length_map, List.length_nil]; omega) (hl := by simp only [List.length_map, List.length_nil]; omega)
    have hx6 : Ext W4 W6 := hg6.below _ hx5
    have hb6 := hb4.to hx6
    rw [List.nil_append] at ho6
    have hsl6 := ho6.sli
    clear hb5
    have hn6 : (notes.map inC).length = notes.length := by simp
    refine rn ?_
    refine sIa tb ks ?_ (hj := fun _ => ⟨rfl, by rw [hn6]; omega⟩)
    refine rn ?_
    refine sStR tb (j := ks) (vs := [.int .i64 i]) ho6 (by rw [hn6]; omega) (fun W7 ho7 hg7 => ?_)
    have hx7 : Ext W4 W7 := hg7.below _ hx6
    have ho7' : Owns W7 0 v' 3 1 ((notes.set ks i).map inC) := by rw [List.map_set]; exact ho7.mono (Nat.zero_le _)
    have hbx7 := hbx.to hx7
    refine rn ?_
    refine sAd tb (r := ((p + 1 : Nat) : Int)) (hp := wrap_i64 (n := ((p : Nat) : Int) + 1) (by omega) (by omega)) ?_
    refine rn ?_
    exact G.lp (x := ((f + 1, p, i), notes, seen, nv)) ((f, p + 1, i), notes.set ks i, sn, v') (by repeat (first | exact Sub.nil _ | refine Sub.cons rfl ?_)) ⟨hkq4.trans hx7.kq, hP4.to hx7, ⟨hT4.bx.to hx7, hT4.own.to hx7, hT4.nt⟩, hsl4, by rw [List.length_set]; exact hnl, ho7', fun b hb hc => by
      have h1 := (ho7.lt b hb).1
      have h2 := (hT4.own.lt b hc).2
      omega, hnx, hi, by simp only; omega, by simp only; omega, hE⟩ (by simp only; omega)
  · simp only at hE
    have hka := hka (.inl rfl)
    have hkb := hkb rfl
    have hnb : sv.ownBlock ≠ some W2.heap.size := fun e => by have := (hT4.own.lt _ e).2; have := hs2v _ e; omega
    refine rn ?_
    refine sCall c41 (IH f (by omega) ka i notes sn W4 nv hP4 hT4 hsl4 hnl hno4 hnn hka hi (by omega)) ?_
    rintro _ W5 ⟨hk5, hT5, hres⟩
    have hP5 : PrR W5 A pb st g := hP4.same fun b hb hb' => ⟨hk5.same b hb (hA b hb'), hb'⟩
    have hno5 : Owns W5 0 nv 3 1 (notes.map inC) := hno4.same fun g hg e => hk5.same g hg (hnn g e)
    have hb5 := hb4.same (hk5.same _ hb4.lt hnb)
    have hkq5 := hkq4.trans hk5
    have hls := Rx.frm_less st x f ka i notes sn
    clear hb4 hbx
    rcases hf : Rx.frm st x f ka i notes sn with ⟨_ | l, s⟩
    · rw [hf] at hE hT5 hres hls
      simp only at hE hT5 hres hls
      rcases hres with ⟨_, v, rfl⟩ | ⟨l, v, hl, _⟩
      rotate_left
      · cases hl
      have hbx := hT5.bx
      refine rn ?_
      exact G.lp (x := ((f + 1, p, i), notes, seen, nv)) ((f, kb, i), notes, s, nv) (by repeat (first | exact Sub.nil _ | refine Sub.cons rfl ?_)) ⟨hkq5, hP5, hT5, by simp only; omega, hnl, hno5, hnn, hkb, hi, by simp only; omega, by simp only; omega, hE⟩ (by simp only; omega)
    · rw [hf] at hE hT5 hres
      simp only at hE hT5 hres
      rcases hres with ⟨hl, _⟩ | ⟨l', v, hl, hov, hvn, rfl⟩
      · cases hl
      cases hl
      have hbx := hT5.bx
      refine rn ?_
      refine G.ret2 rfl rfl rfl rfl rfl ?_
      exact ⟨hkq5, by rw [← hE]; exact hT5, .inr ⟨l, v, by rw [← hE], hov, hvn, rfl⟩⟩
  · simp only at hE
    have hka := hka (.inr rfl)
    refine rn ?_
    exact G.lp (x := ((f + 1, p, i), notes, seen, nv)) ((f, ka, i), notes, sn, nv) (by repeat (first | exact Sub.nil _ | refine Sub.cons rfl ?_)) ⟨hkq4, hP4, hT4, hsl4, hnl, hno4, hnn, hka, hi, by simp only; omega, by simp only; omega, hE⟩ (by simp only; omega)
  · simp only at hE
    have hbd := hbx.to (Ext.drew W4)
    refine rn ?_
    refine G.regionM [(0, true), (1, true), (2, true), (3, true), (4, true), (5, true), (6, true), (7, true), (8, true), (9, true)] (Ext W4) (by kernel_rfl) (by kernel_rfl) rfl mixed (Ext.drew W4) rfl ?_
    refine rd ?_
    refine GM.nil ?_
    refine rn ?_
    refine G.ret2 rfl rfl rfl rfl rfl ?_
    have hd := Ext.drew W4
    have hTd : TryR _ tb_ pb x sv sn := ⟨hT4.bx.to hd, hT4.own.to hd, hT4.nt⟩
    by_cases hce : i < x.length
    · rw [if_pos hce] at hE
      refine ⟨hkq4.trans hd.kq, by rw [← hE]; exact hTd, .inl ⟨by rw [← hE], nv, ?_⟩⟩
      rw [show decide (((i : Nat) : Int) = ((x.length : Nat) : Int)) = false from decide_eq_false (by omega)]
    · rw [if_neg hce] at hE
      refine ⟨hkq4.trans hd.kq, by rw [← hE]; exact hTd, .inr ⟨notes, nv, by rw [← hE], hno4.to hd, hnn, ?_⟩⟩
      rw [show decide (((i : Nat) : Int) = ((x.length : Nat) : Int)) = true from decide_eq_true (by omega)]
end Go.Proofs.YtbpkhgehchelhaaDoor
end
section
namespace Go.Rx

/-- one further, with the notes -/
def nextsN (st : List K) (x : List UInt8) (p i : Nat) (ns : List Int) : List (Nat × Nat × List Int) :=
  match st[p]? with
  | none => []
  | some k => match k.kind with
    | 0 => if i < x.length then [(p + 1, i + (dec x i).2, ns)] else []
    | 1 => [(p + 1, i, ns)]
    | 2 => [(p + 1, i, ns)]
    | 3 => [(p + 1, i, ns.set k.slot i)]
    | 4 => [(k.a, i, ns), (k.b, i, ns)]
    | 5 => [(k.a, i, ns)]
    | _ => []
def AccW (st : List K) (x : List UInt8) (r : List Int) : Nat → Nat → Nat → List Int → Prop
  | 0, _, _, _ => False
  | n + 1, p, i, ns => (∃ k, st[p]? = some k ∧ 6 ≤ k.kind ∧ r = ns) ∨ ∃ d ∈ nextsN st x p i ns, AccW st x r n d.1 d.2.1 d.2.2
abbrev Cf := Nat × List Int
/-- code c of size n keeps to R -/
structure Fw (x : List UInt8) (c : Nat → List K) (n : Nat) (R : Cf → Cf → Prop) : Prop where
  len : ∀ p, (c p).length = n
  fwd : ∀ A B N i ns r, i ≤ x.length → AccW (A ++ (c A.length ++ B)) x r N A.length i ns → ∃ j ns' M, R (i, ns) (j, ns') ∧ M ≤ N ∧ j ≤ x.length ∧ AccW (A ++ (c A.length ++ B)) x r M (A.length + n) j ns'
/-- there and there on -/
structure Pre (R : Cf → Cf → Prop) : Prop where
  rfl : ∀ a, R a a
  trans : ∀ {a b c}, R a b → R b c → R a c
section
variable {x : List UInt8} {c d : Nat → List K} {n n' : Nat} {R : Cf → Cf → Prop}
theorem Fw.fwd' (h : Fw x c n R) (A B : List K) {st : List K} {p N i : Nat} {ns r : List Int} (e : st = A ++ (c p ++ B)) (hp : A.length = p) (hi : i ≤ x.length)
    (ha : AccW st x r N p i ns) : ∃ j ns' M, R (i, ns) (j, ns') ∧ M ≤ N ∧ j ≤ x.length ∧ AccW st x r M (p + n) j ns' := by
  subst hp e; exact h.fwd A B N i ns r hi ha
theorem Fw.congr (h : Fw x c n R) (hc : c = d) (hn : n = n') : Fw x d n' R := by subst hc hn; exact h
theorem Fw.nil (hR : Pre R) : Fw x (fun _ => []) 0 R := ⟨fun _ => rfl, fun A B N i ns r hi h => ⟨i, ns, N, hR.rfl _, Nat.le_refl _, hi, h⟩⟩
theorem Fw.one (k : K) (hk : k.kind < 6) (hn : ∀ st p i ns, i ≤ x.length → st[p]? = some k → ∀ d ∈ nextsN st x p i ns, d.1 = p + 1 ∧ R (i, ns) d.2 ∧ d.2.1 ≤ x.length) : Fw x (fun _ => [k]) 1 R := by
  refine ⟨fun _ => rfl, fun A B N i ns r hi h => ?_⟩
  have hat : (A ++ ([k] ++ B))[A.length]? = some k := at_app A k B
  cases N with
  | zero => exact h.elim
  | succ N =>
    rcases h with ⟨k', h1, h2, _⟩ | ⟨⟨p, q, ns'⟩, hd, h⟩
    · rw [hat] at h1
      cases h1; omega
    · obtain ⟨h1, h2, h3⟩ := hn _ _ _ _ hi hat _ hd
      simp only at h1 h2 h3
      subst h1
      exact ⟨q, ns', N, h2, by omega, h3, h⟩
theorem Fw.comp (hR : Pre R) (hc : Fw x c n R) (hd : Fw x d n' R) : Fw x (fun p => c p ++ d (p + n)) (n + n') R := by
  have l1 : ∀ A : List K, (A ++ c A.length).length = A.length + n := fun A => by rw [List.length_append, hc.len]
  refine ⟨fun p => by rw [List.length_append, hc.len, hd.len], fun A B N i ns r hi h => ?_⟩
  obtain ⟨m, ms, M, h1, h2, h3, h4⟩ := hc.fwd' A (d (A.length + n) ++ B) (by simp only [List.append_assoc]) rfl hi h
  obtain ⟨j, js, M', h5, h6, h7, h8⟩ := hd.fwd' (A ++ c A.length) B (by simp only [List.append_assoc]) (l1 A) h3 h4
  exact ⟨j, js, M', hR.trans h1 h5, by omega, h7, by rw [← Nat.add_assoc]; exact h8⟩
theorem Fw.copies (hR : Pre R) (hc : Fw x c n R) : ∀ k, Fw x (copies c n k) (k * n) R
  | 0 => (Fw.nil hR).congr (by funext p; rfl) (by simp)
  | k + 1 => (hc.comp hR (hc.copies hR k)).congr (by funext p; rfl) (by rw [Nat.succ_mul]; omega)
theorem fork_accW {st : List K} {r ns : List Int} {pc a b i N : Nat} {few : Bool} (h : st[pc]? = some (forkK few a b)) (hN : AccW st x r N pc i ns) : ∃ M, M < N ∧ (AccW st x r M a i ns ∨ AccW st x r M b i ns) := by
  cases N with
  | zero => exact hN.elim
  | succ N =>
    rcases hN with ⟨k', h1, h2, _⟩ | ⟨d, hd, hN⟩
    · rw [h] at h1
      cases h1
      unfold forkK kOf at h2; cases few <;> simp at h2
    · unfold nextsN at hd
      rw [h] at hd
      cases few
      · simp only [forkK, kOf, Bool.false_eq_true, if_false, List.mem_cons, List.not_mem_nil, or_false] at hd
        rcases hd with rfl | rfl
        · exact ⟨N, by omega, .inl hN⟩
        · exact ⟨N, by omega, .inr hN⟩
      · simp only [forkK, kOf, if_true, List.mem_cons, List.not_mem_nil, or_false] at hd
        rcases hd with rfl | rfl
        · exact ⟨N, by omega, .inr hN⟩
        · exact ⟨N, by omega, .inl hN⟩
theorem jump_accW {st : List K} {r ns : List Int} {pc a i N : Nat} (h : st[pc]? = some { kOf 5 with a := a }) (hN : AccW st x r N pc i ns) : ∃ M, M < N ∧ AccW st x r M a i ns := by
  cases N with
  | zero => exact hN.elim
  | succ N =>
    rcases hN with ⟨k', h1, h2, _⟩ | ⟨d, hd, hN⟩
    · rw [h] at h1
      cases h1
      simp [kOf] at h2
    · unfold nextsN at hd
      rw [h] at hd
      simp only [kOf, List.mem_cons, List.not_mem_nil, or_false] at hd
      subst hd
      exact ⟨N, by omega, hN⟩
theorem Fw.opts (hR : Pre R) (hc : Fw x c n R) (few : Bool) : ∀ k, ∀ A B N i ns r E, E = A.length + k * (n + 1) → i ≤ x.length →
    AccW (A ++ (Rx.opts c n few E k A.length ++ B)) x r N A.length i ns → ∃ j ns' M, R (i, ns) (j, ns') ∧ M ≤ N ∧ j ≤ x.length ∧ AccW (A ++ (Rx.opts c n few E k A.length ++ B)) x r M E j ns'
  | 0, A, B, N, i, ns, r, E, hE, hi => by
    rw [Nat.zero_mul, Nat.add_zero] at hE
    subst hE
    exact fun h => ⟨i, ns, N, hR.rfl _, Nat.le_refl _, hi, h⟩
  | k + 1, A, B, N, i, ns, r, E, hE, hi => by
    rw [Nat.succ_mul] at hE
    have e1 : A ++ (Rx.opts c n few E (k + 1) A.length ++ B) = (A ++ [forkK few (A.length + 1) E]) ++ (c (A ++ [forkK few (A.length + 1) E]).length ++ (Rx.opts c n few E k (A.length + 1 + n) ++ B)) := by
      rw [Rx.opts]
      simp only [List.append_assoc, List.cons_append, List.nil_append, List.length_append, List.length_cons, List.length_nil, Nat.zero_add]
    have l1 : (A ++ [forkK few (A.length + 1) E]).length = A.length + 1 := by simp
    have e2 : A ++ (Rx.opts c n few E (k + 1) A.length ++ B) = (A ++ forkK few (A.length + 1) E :: c (A.length + 1)) ++ (Rx.opts c n few E k (A ++ forkK few (A.length + 1) E :: c (A.length + 1)).length ++ B) := by
      rw [Rx.opts]
      simp only [List.append_assoc, List.cons_append, List.length_append, List.length_cons, hc.len]
      congr 5
      omega
    have l2 : (A ++ forkK few (A.length + 1) E :: c (A.length + 1)).length = A.length + 1 + n := by simp only [List.length_append, List.length_cons, hc.len]; omega
    have hat : (A ++ (Rx.opts c n few E (k + 1) A.length ++ B))[A.length]? = some (forkK few (A.length + 1) E) := by rw [Rx.opts]; exact at_app A _ _
    intro h
    obtain ⟨M, hM, h | h⟩ := fork_accW hat h
    · obtain ⟨m, ms, M', h1, h2, h3, h4⟩ := hc.fwd' _ _ (by rw [e1, l1]) l1 hi h
      rw [e2, ← l2] at h4
      obtain ⟨j, js, M2, h6, h7, h8, h9⟩ := hc.opts hR few k _ B M' m ms r E (by rw [l2]; omega) h3 h4
      rw [e2]
      exact ⟨j, js, M2, hR.trans h1 h6, by omega, h8, h9⟩
    · exact ⟨i, ns, M, hR.rfl _, by omega, hi, h⟩
theorem Fw.optsS (hR : Pre R) (hc : Fw x c n R) (few : Bool) (k : Nat) : Fw x (fun p => Rx.opts c n few (p + k * (n + 1)) k p) (k * (n + 1)) R :=
  ⟨fun p => opts_len hc.len few _ k p, fun A B N i ns r hi h => hc.opts hR few k A B N i ns r _ rfl hi h⟩
theorem Fw.star (hR : Pre R) (hc : Fw x c n R) (few : Bool) : Fw x (fun p => forkK few (p + 1) (p + n + 2) :: (c (p + 1) ++ [{ kOf 5 with a := p }])) (n + 2) R := by
  have e1 : ∀ A B : List K, A ++ ((forkK few (A.length + 1) (A.length + n + 2) :: (c (A.length + 1) ++ [{ kOf 5 with a := A.length }])) ++ B) =
      (A ++ [forkK few (A.length + 1) (A.length + n + 2)]) ++ (c (A ++ [forkK few (A.length + 1) (A.length + n + 2)]).length ++ ({ kOf 5 with a := A.length } :: B)) := fun A B => by
    simp only [List.append_assoc, List.cons_append, List.nil_append, List.length_append, List.length_cons, List.length_nil, Nat.zero_add]
  have l1 : ∀ A : List K, (A ++ [forkK few (A.length + 1) (A.length + n + 2)]).length = A.length + 1 := fun A => by simp
  have hat : ∀ A B : List K, (A ++ ((forkK few (A.length + 1) (A.length + n + 2) :: (c (A.length + 1) ++ [{ kOf 5 with a := A.length }])) ++ B))[A.length]? = some (forkK few (A.length + 1) (A.length + n + 2)) := fun A B => at_app A _ _
  have hjt : ∀ A B : List K, (A ++ ((forkK few (A.length + 1) (A.length + n + 2) :: (c (A.length + 1) ++ [{ kOf 5 with a := A.length }])) ++ B))[A.length + 1 + n]? = some { kOf 5 with a := A.length } := fun A B => by
    have := at_app (A ++ forkK few (A.length + 1) (A.length + n + 2) :: c (A.length + 1)) { kOf 5 with a := A.length } B
    rw [show (A ++ forkK few (A.length + 1) (A.length + n + 2) :: c (A.length + 1)).length = A.length + 1 + n by simp only [List.length_append, List.length_cons, hc.len]; omega] at this
    simpa only [List.append_assoc, List.cons_append, List.nil_append] using this
  refine ⟨fun p => by simp only [List.length_cons, List.length_append, hc.len, List.length_nil], fun A B N => ?_⟩
  induction N using Nat.strongRecOn with
  | _ N ih =>
    intro i ns r hi h
    obtain ⟨M, hM, h | h⟩ := fork_accW (hat A B) h
    · obtain ⟨m, ms, M', h1, h2, h3, h4⟩ := hc.fwd' _ _ (by rw [e1, l1]) (l1 A) hi h
      obtain ⟨M2, hM2, h5⟩ := jump_accW (hjt A B) h4
      obtain ⟨j, js, M3, h6, h7, h8, h9⟩ := ih M2 (by omega) m ms r h3 h5
      exact ⟨j, js, M3, hR.trans h1 h6, by omega, h8, h9⟩
    · exact ⟨i, ns, M, hR.rfl _, by omega, hi, h⟩
theorem Fw.plus (hR : Pre R) (hc : Fw x c n R) (few : Bool) : Fw x (fun p => c p ++ [forkK few p (p + n + 1)]) (n + 1) R := by
  have e1 : ∀ A B : List K, A ++ ((c A.length ++ [forkK few A.length (A.length + n + 1)]) ++ B) = A ++ (c A.length ++ (forkK few A.length (A.length + n + 1) :: B)) := fun A B => by
    simp only [List.append_assoc, List.cons_append, List.nil_append]
  have hat : ∀ A B : List K, (A ++ ((c A.length ++ [forkK few A.length (A.length + n + 1)]) ++ B))[A.length + n]? = some (forkK few A.length (A.length + n + 1)) := fun A B => by
    have := at_app (A ++ c A.length) (forkK few A.length (A.length + n + 1)) B
    rw [List.length_append, hc.len] at this
    simpa only [List.append_assoc, List.cons_append, List.nil_append] using this
  refine ⟨fun p => by simp only [List.length_append, hc.len, List.length_cons, List.length_nil], fun A B N => ?_⟩
  induction N using Nat.strongRecOn with
  | _ N ih =>
    intro i ns r hi h
    rw [e1] at h
    obtain ⟨m, ms, M', h1, h2, h3, h4⟩ := hc.fwd _ _ _ _ _ _ hi h
    rw [← e1] at h4
    obtain ⟨M, hM, h | h⟩ := fork_accW (hat A B) h4
    · obtain ⟨j, js, M3, h6, h7, h8, h9⟩ := ih M (by omega) m ms r h3 h
      exact ⟨j, js, M3, hR.trans h1 h6, by omega, h8, h9⟩
    · exact ⟨m, ms, M, h1, by omega, h3, h⟩
theorem Fw.rep (hR : Pre R) (hc : Fw x c n R) (mn : Nat) (mx : Int) (few plus : Bool) : Fw x (repC c n mn mx few plus) (sizeR n mn mx plus) R := by
  cases plus
  · by_cases hx : mx < 0
    · refine ((hc.copies hR mn).comp hR (hc.star hR few)).congr ?_ ?_
      · funext p; unfold repC; simp [hx]
      · unfold sizeR; simp [hx]
    · refine ((hc.copies hR mn).comp hR (hc.optsS hR few (mx.toNat - mn))).congr ?_ ?_
      · funext p; unfold repC; simp [hx]
      · unfold sizeR; simp [hx]
  · exact (hc.plus hR few).congr (by funext p; unfold repC; simp) (by unfold sizeR; simp)
theorem Fw.alt (hc : Fw x c n R) (hd : Fw x d n' R) :
    Fw x (fun p => forkK false (p + 1) (p + 2 + n) :: (c (p + 1) ++ ({ kOf 5 with a := p + 2 + n + n' } :: d (p + 2 + n)))) (n + n' + 2) R := by
  generalize hF : (fun p => forkK false (p + 1) (p + 2 + n)) = F
  generalize hJ : (fun p => ({ kOf 5 with a := p + 2 + n + n' } : K)) = J
  have hF' : ∀ p, F p = forkK false (p + 1) (p + 2 + n) := fun p => by rw [← hF]
  have hJ' : ∀ p, J p = { kOf 5 with a := p + 2 + n + n' } := fun p => by rw [← hJ]
  suffices hs : Fw x (fun p => F p :: (c (p + 1) ++ (J p :: d (p + 2 + n)))) (n + n' + 2) R by
    refine hs.congr ?_ rfl
    funext p; rw [hF', hJ']
  have e1 : ∀ A B : List K, A ++ ((F A.length :: (c (A.length + 1) ++ (J A.length :: d (A.length + 2 + n)))) ++ B) = (A ++ [F A.length]) ++ (c (A ++ [F A.length]).length ++ (J A.length :: (d (A.length + 2 + n) ++ B))) := fun A B => by
    simp only [List.append_assoc, List.cons_append, List.nil_append, List.length_append, List.length_cons, List.length_nil, Nat.zero_add]
  have l1 : ∀ A : List K, (A ++ [F A.length]).length = A.length + 1 := fun A => by simp
  have l2 : ∀ A : List K, (A ++ (F A.length :: (c (A.length + 1) ++ [J A.length]))).length = A.length + 2 + n := fun A => by
    simp only [List.length_append, List.length_cons, List.length_nil, hc.len]; omega
  have e2 : ∀ A B : List K, A ++ ((F A.length :: (c (A.length + 1) ++ (J A.length :: d (A.length + 2 + n)))) ++ B) = (A ++ (F A.length :: (c (A.length + 1) ++ [J A.length]))) ++ (d (A ++ (F A.length :: (c (A.length + 1) ++ [J A.length]))).length ++ B) := fun A B => by
    rw [l2]
    simp only [List.append_assoc, List.cons_append, List.nil_append]
  have hat : ∀ A B : List K, (A ++ ((F A.length :: (c (A.length + 1) ++ (J A.length :: d (A.length + 2 + n)))) ++ B))[A.length]? = some (forkK false (A.length + 1) (A.length + 2 + n)) := fun A B => by rw [← hF']; exact at_app A _ _
  have hjt : ∀ A B : List K, (A ++ ((F A.length :: (c (A.length + 1) ++ (J A.length :: d (A.length + 2 + n)))) ++ B))[A.length + 1 + n]? = some { kOf 5 with a := A.length + 2 + n + n' } := fun A B => by
    have := at_app (A ++ F A.length :: c (A.length + 1)) (J A.length) (d (A.length + 2 + n) ++ B)
    rw [show (A ++ F A.length :: c (A.length + 1)).length = A.length + 1 + n by simp only [List.length_append, List.length_cons, hc.len]; omega] at this
    rw [← hJ']
    simpa only [List.append_assoc, List.cons_append, List.nil_append] using this
  refine ⟨fun p => by simp only [List.length_cons, List.length_append, hc.len, hd.len]; omega, fun A B N i ns r hi h => ?_⟩
  obtain ⟨M, hM, h | h⟩ := fork_accW (hat A B) h
  · obtain ⟨m, ms, M', h1, h2, h3, h4⟩ := hc.fwd' _ _ (by rw [e1, l1]) (l1 A) hi h
    obtain ⟨M2, hM2, h5⟩ := jump_accW (hjt A B) h4
    exact ⟨m, ms, M2, h1, by omega, h3, by rw [show A.length + (n + n' + 2) = A.length + 2 + n + n' by omega]; exact h5⟩
  · obtain ⟨m, ms, M', h1, h2, h3, h4⟩ := hd.fwd' _ _ (by rw [e2, l2]) (l2 A) hi h
    exact ⟨m, ms, M', h1, by omega, h3, by rw [show A.length + (n + n' + 2) = A.length + 2 + n + n' by omega]; exact h4⟩
end

/-! ### Groups within groups have greater numbers -/
/-! ### Beginnings and ends -/
def GoodG (lo : Nat) (a : Cf) : Prop := ∀ k, lo < k → 2 * k + 1 < a.2.length → a.2.getD (2 * k + 1) 0 < 0 ∨ (0 ≤ a.2.getD (2 * k) 0 ∧ a.2.getD (2 * k) 0 ≤ a.2.getD (2 * k + 1) 0 ∧ a.2.getD (2 * k + 1) 0 ≤ (a.1 : Int))
structure Rg (lo : Nat) (a b : Cf) : Prop where
  le : a.1 ≤ b.1
  len : b.2.length = a.2.length
  low : ∀ s, s < 2 * lo + 2 → b.2.getD s 0 = a.2.getD s 0
  good : GoodG lo a → GoodG lo b
theorem Rg.pre (lo : Nat) : Pre (Rg lo) :=
  ⟨fun a => ⟨Nat.le_refl _, rfl, fun _ _ => rfl, id⟩, fun h k => ⟨Nat.le_trans h.le k.le, k.len.trans h.len, fun s hs => (k.low s hs).trans (h.low s hs), fun g => k.good (h.good g)⟩⟩
theorem GoodG.up {lo : Nat} {i j : Nat} {ns : List Int} (h : GoodG lo (i, ns)) (hij : i ≤ j) : GoodG lo (j, ns) := fun k h1 h2 => by
  rcases h k h1 h2 with h3 | ⟨h3, h4, h5⟩
  · exact .inl h3
  · exact .inr ⟨h3, h4, by simp only at h5 ⊢; omega⟩
theorem Rg.on {lo i j : Nat} {ns : List Int} (hij : i ≤ j) : Rg lo (i, ns) (j, ns) := ⟨hij, rfl, fun _ _ => rfl, fun g => g.up hij⟩
theorem getD_set_ne {l : List Int} {s q : Nat} {v : Int} (h : s ≠ q) : (l.set s v).getD q 0 = l.getD q 0 := by
  rw [List.getD_eq_getElem?_getD, List.getElem?_set_ne h, ← List.getD_eq_getElem?_getD]
theorem getD_set_eq {l : List Int} {s : Nat} {v : Int} (h : s < l.length) : (l.set s v).getD s 0 = v := by
  rw [List.getD_eq_getElem?_getD, List.getElem?_set_self h]; rfl
end Go.Rx
end
section
open Go Go.Vg Go.RowKit Go.Proofs Go.Proofs.YtbpkhgehchelhaaDoor
namespace Go.Proofs.YtbpkhgehchelhaaDoor

theorem fill_set (a b : Int) {m k : Nat} (h : k < m) : (List.replicate k a ++ List.replicate (m - k) b).set k a = List.replicate (k + 1) a ++ List.replicate (m - (k + 1)) b := by
  rw [List.set_append_right _ _ (by simp), List.length_replicate, Nat.sub_self, show m - k = (m - (k + 1)) + 1 by omega, List.replicate_succ, List.set_cons_zero, List.replicate_succ', List.append_assoc]
  rfl
/-- what the reference's Groups tells -/
def GrpR (w : World) (st : List Rx.K) (g : Nat) (x : List UInt8) (r : Value) (w' : World) : Prop :=
  Ext w w' ∧ ((Rx.groupsF st g x = none ∧ r = .tuple ⟨[.slice none 0 0, .bool false]⟩) ∨ ∃ l v, Rx.groupsF st g x = some l ∧ l.length = 2 * g + 2 ∧ Owns w' w.heap.size v 3 1 (l.map inC) ∧ r = .tuple ⟨[v, .bool true]⟩)
theorem frm_len (st : List Rx.K) (x : List UInt8) : ∀ (n p i : Nat) (ns : List Int) (sn : List Bool) (l : List Int) (s : List Bool), Rx.frm st x n p i ns sn = (some l, s) → l.length = ns.length
  | 0, p, i, ns, sn, l, s, h => by simp [Rx.frm] at h
  | n + 1, p, i, ns, sn, l, s, h => by
    rw [Rx.frm] at h
    split at h
    · simp at h
    · simp only at h
      rcases hk : st[p]? with _ | ⟨kd, kl, kn, ks, ka, kb⟩
      · rw [hk] at h; simp at h
      · rw [hk] at h
        simp only at h
        match kd, h with
        | 0, h =>
          simp only at h
          split at h
          · simp at h
          · split at h
            · exact frm_len st x n _ _ _ _ _ _ h
            · simp at h
        | 1, h =>
          simp only at h
          split at h
          · simp at h
          · exact frm_len st x n _ _ _ _ _ _ h
        | 2, h =>
          simp only at h
          split at h
          · simp at h
          · exact frm_len st x n _ _ _ _ _ _ h
        | 3, h => have := frm_len st x n _ _ _ _ _ _ h; rwa [List.length_set] at this
        | 4, h =>
          simp only at h
          rcases hf : Rx.frm st x n ka i ns (sn.set (p * (x.length + 1) + i) true) with ⟨_ | l', s'⟩
          · rw [hf] at h
            exact frm_len st x n _ _ _ _ _ _ h
          · rw [hf] at h
            simp only [Prod.mk.injEq, Option.some.injEq] at h
            obtain ⟨rfl, rfl⟩ := h
            exact frm_len st x n _ _ _ _ _ _ hf
        | 5, h => exact frm_len st x n _ _ _ _ _ _ h
        | m + 6, h =>
          simp only at h
          split at h
          · simp at h
          · simp only [Prod.mk.injEq, Option.some.injEq] at h
            rw [h.1]
set_option maxHeartbeats 4000000 in
theorem groupsR_ok (w : World) (A : Nat → Prop) (pb g : Nat) (st : List Rx.K) (x : List UInt8) (hP0 : PrR w A pb st g) (hw : Rx.WfP st g) (hgl : g ≤ 100000) (hxl : x.length ≤ 100000) :
    Ret Tryd.prog 16 ⟨[ptr pb, S x]⟩ w (GrpR w st g x) := by
  have hP : PrR w (fun b => b < w.heap.size) pb st g := hP0.same fun b hb _ => ⟨rfl, hb⟩
  obtain ⟨_, ⟨pv, lvs, hbx, how, _, hpl, _⟩, hle⟩ := id hP
  have hzl : (List.zipWith sR st lvs).length = st.length := by rw [List.length_zipWith, hpl, Nat.min_self]
  refine ret_of_G Tryd.func16 rfl Tryd.ntmps16 rfl ?_
  simp only [argEnv]
  refine rn ?_
  refine sAd tb (r := ((2 * g : Nat) : Int)) (hp := wrap_i64 (n := 2 * ((g : Nat) : Int)) (by omega) (by omega)) ?_
  refine rn ?_
  refine sAd tb (r := ((2 * g + 2 : Nat) : Int)) ?_
  refine rn ?_
  refine sMkS tb (z := .int .i64 0) (bytes := 8) (m := ((2 * g + 2 : Nat) : Int)) (2 * g + 2) (fun nv W1 ho1 hs1 hx1 _ => ?_)
  have ho1' : Owns W1 w.heap.size nv 3 1 ((List.replicate 0 (-1 : Int) ++ List.replicate (2 * g + 2 - 0) (0 : Int)).map inC) := by
    have : (List.replicate 0 (-1 : Int) ++ List.replicate (2 * g + 2 - 0) (0 : Int)).map inC = (List.replicate (2 * g + 2) (Value.int .i64 0)).map fun u => [u] := by simp [inC]
    rw [this]; exact ho1
  clear ho1
  refine rn ?_
  refine (G.loop (fun k : Nat => [(0, none, ptr pb), (1, none, S x), (6, none, nv), (7, none, .int .i64 (k : Nat))]) (fun k W => Ext w W ∧ Owns W w.heap.size nv 3 1 ((List.replicate k (-1 : Int) ++ List.replicate (2 * g + 2 - k) (0 : Int)).map inC) ∧ k ≤ 2 * g + 2) (fun k => 2 * g + 2 - k) 0 (by repeat (first | exact Sub.nil _ | refine Sub.cons rfl ?_)) ⟨hx1, ho1', Nat.zero_le _⟩ ?_)
  clear ho1' hx1 hs1
  rintro k W ⟨hx, ho, hk⟩
  have hsl := ho.sli
  have hkl : ((List.replicate k (-1 : Int) ++ List.replicate (2 * g + 2 - k) (0 : Int)).map inC).length = 2 * g + 2 := by simp; omega
  refine rn ?_
  rw [hkl]
  refine rn ?_
  first | refine G.condD rfl (fun hc => ?_) (fun hc => ?_) | refine G.condN rfl (fun hc => ?_) (fun hc => ?_) | refine G.cond rfl (fun hc => ?_) (fun hc => ?_)
  · have hlt : k < 2 * g + 2 := by omega
    refine rn ?_
    refine sIa tb k ?_ (hj := fun _ => ⟨rfl, by rw [hkl]; omega⟩)
    refine rn ?_
    refine sStR tb (j := k) (vs := [.int .i64 (-1)]) ho (by rw [hkl]; omega) (fun W2 ho2 hg2 => ?_)
    refine rn ?_
    refine sAd tb (r := ((k + 1 : Nat) : Int)) ?_
    refine rn ?_
    refine G.lp (x := k) (k + 1) (by repeat (first | exact Sub.nil _ | refine Sub.cons rfl ?_)) ⟨hg2.ext0 hx, ?_, by omega⟩ (by omega)
    rw [← fill_set _ _ hlt, List.map_set]
    exact ho2
  have hke : k = 2 * g + 2 := by omega
  subst hke
  rw [Nat.sub_self, List.replicate_zero, List.append_nil] at ho
  clear hsl hkl hk hc
  have hbxW := hbx.to hx
  have howW := how.sli.to hx
  refine rn ?_
  rw [hzl]
  refine sAd tb (r := ((x.length + 1 : Nat) : Int)) ?_
  refine rn ?_
  obtain ⟨N, hN⟩ : ∃ N, N = st.length * (x.length + 1) := ⟨_, rfl⟩
  have hNl : N ≤ 2000 * 100001 := by rw [hN]; exact Nat.mul_le_mul hle (by omega)
  refine sAd tb (r := ((N : Nat) : Int)) (hp := by show IntKind.i64.wrap _ = _; rw [hN, ← Int.natCast_mul, ← hN]; exact wrap_i64 (by omega) (by omega)) ?_
  refine rn ?_
  refine sMkS tb (z := .bool false) (bytes := 1) (m := ((N : Nat) : Int)) N (fun sv W3 ho3 hs3 hx3 hob3 => ?_)
  have hx03 := hx.trans hx3
  have ho3' : Owns W3 W.heap.size sv 4 1 ((List.replicate N false).map bC) := by
    have : (List.replicate N false).map bC = (List.replicate N (Value.bool false)).map fun u => [u] := by simp [bC]
    rw [this]; exact ho3
  have hbx3 := hbxW.to hx3
  refine rn ?_
  obtain ⟨sa, sc, rfl, -⟩ := ho3'.sli.len
  refine sBd tb ?_
  refine rn ?_
  refine sBox (us := [ptr pb, S x, .slice sa ((List.replicate N false).map bC).length sc]) (fun W4 hb4 hs4 hx4 => ?_) (hv := rfl)
  obtain ⟨sv, hsv⟩ : ∃ sv, sv = Value.slice sa ((List.replicate N false).map bC).length sc := ⟨_, rfl⟩
  rw [← hsv] at hb4 ho3 ho3' hob3
  have hx04 := hx03.trans hx4
  have hwW := hx.size
  have hT : TryR W4 W3.heap.size pb x sv (List.replicate N false) := ⟨hb4, (ho3'.to hx4).mono (Nat.zero_le _), fun e => by rw [hob3] at e; have := Option.some.inj e; omega⟩
  have hP4 := hP.to hx04
  have hu : Rx.unsn (List.replicate N false) < N + 1 := by
    unfold Rx.unsn
    rw [List.count_replicate_self]
    omega
  have hno : Owns W4 0 nv 3 1 ((List.replicate (2 * g + 2) (-1 : Int)).map inC) := ((ho.to hx3).to hx4).mono (Nat.zero_le _)
  have hnn : ∀ b, nv.ownBlock = some b → sv.ownBlock ≠ some b := fun b e e' => by
    have h1 := (ho.lt b e).2
    rw [hob3] at e'
    have := Option.some.inj e'
    omega
  have hgf : Rx.groupsF st g x = ((Rx.frm st x (N + 1) 0 0 (List.replicate (2 * g + 2) (-1)) (List.replicate N false)).1).map fun l => Rx.noEnd ((l.set 0 0).set 1 (x.length : Nat)) := by unfold Rx.groupsF; rw [hN]
  refine rn ?_
  refine sCall c41 (from_ok W3.heap.size pb g x sv st (fun b => b < w.heap.size) hw (fun b hb e => by rw [hob3] at e; have := Option.some.inj e; omega) hxl hgl (N + 1) 0 0 _ _ W4 nv hP4 hT (by rw [List.length_replicate, hN]) (by rw [List.length_replicate]) hno hnn hw.pos (Nat.zero_le _) hu) ?_
  rintro r W5 ⟨hk5, hT5, hres⟩
  have hx5 : Ext w W5 := ⟨hk5.os.trans hx04.os, hk5.tape.trans hx04.tape, hk5.output.trans hx04.output, Nat.le_trans hx04.size hk5.size, fun b hb => (hk5.same b (Nat.lt_of_lt_of_le hb hx04.size) (fun e => by rw [hob3] at e; have := Option.some.inj e; omega)).trans (hx04.block b hb)⟩
  have hlen := frm_len st x (N + 1) 0 0 (List.replicate (2 * g + 2) (-1)) (List.replicate N false)
  rcases hf : Rx.frm st x (N + 1) 0 0 (List.replicate (2 * g + 2) (-1)) (List.replicate N false) with ⟨_ | l0, s0⟩
  · rw [hf] at hres hgf
    simp only [Option.map_none] at hres hgf
    rcases hres with ⟨_, v, rfl⟩ | ⟨l, v, hl, _⟩
    rotate_left
    · cases hl
    refine rn ?_
    refine G.ret2 rfl rfl rfl rfl rfl ?_
    exact ⟨hx5, .inl ⟨hgf, rfl⟩⟩
  have hll := hlen l0 s0 hf
  rw [List.length_replicate] at hll
  clear hlen
  rw [hf] at hres hgf
  simp only [Option.map_some] at hres hgf
  rcases hres with ⟨hl, _⟩ | ⟨l', v, hl, hov, _, rfl⟩
  · cases hl
  cases hl
  clear hf hT5 hk5 hT hP4 hu hno hnn hb4 ho3 ho3' hbx3 hbxW howW
  refine rn ?_
  refine sBs' tb ([] : List (List Value)) (fun us W6 ho6 hs6 hx6 => ?_)
  refine rn ?_
  refine sApp tb ho6 (hov.to hx6).sli (fun ov W7 ho7 hg7 => ?_) (h1 := int_one) (hb := by simp only [List.length_map, List.length_nil]; omega) (hl := by simp only [List.length_map, List.length_nil]; omega)
  have hx7 : Ext W5 W7 := hg7.below _ hx6
  have hx07 := hx5.trans hx7
  rw [List.nil_append] at ho7
  replace ho7 := ho7.mono hx5.size
  have hl7 : (l0.map inC).length = 2 * g + 2 := by rw [List.length_map, hll]
  have hsl7 := ho7.sli
  clear ho6 hg7 hx6 hs6 hov
  refine rn ?_
  refine sIa tb 0 ?_ (hj := fun _ => ⟨rfl, by rw [hl7]; omega⟩)
  refine rn ?_
  refine sStR tb (j := 0) (vs := [.int .i64 0]) ho7 (by rw [hl7]; omega) (fun W8 ho8 hg8 => ?_)
  have hx08 : Ext w W8 := hg8.ext0 hx07
  clear ho7 hsl7 hg8
  have hsl8 := ho8.sli
  refine rn ?_
  refine sIa tb 1 ?_ (hj := fun _ => ⟨rfl, by rw [List.length_set, hl7]; omega⟩)
  refine rn ?_
  refine sStR tb (j := 1) (vs := [.int .i64 (x.length : Nat)]) ho8 (by rw [List.length_set, hl7]; omega) (fun W9 ho9 hg9 => ?_)
  have hx09 : Ext w W9 := hg9.ext0 hx08
  clear ho8 hsl8 hg9 hx08 hx07 hx7
  obtain ⟨l, hle'⟩ : ∃ l, l = (l0.set 0 0).set 1 ((x.length : Nat) : Int) := ⟨_, rfl⟩
  have ho9' : Owns W9 w.heap.size ov 3 1 ((noEndK 1 l).map inC) := by
    have h1 := (noEndK_step 0 l (by rw [hle', List.length_set, List.length_set, hll]; omega)).2
    have h2 : l.getD (2 * 0 + 1) 0 = ((x.length : Nat) : Int) := by rw [hle']; exact Rx.getD_set_eq (by rw [List.length_set, hll]; omega)
    rw [h2, if_neg (by omega)] at h1
    rw [h1, show noEndK 0 l = l from rfl, hle', List.map_set, List.map_set]
    exact ho9
  have hll' : l.length = 2 * g + 2 := by rw [hle', List.length_set, List.length_set, hll]
  rw [← hle'] at hgf
  clear ho9 hle'
  refine rn ?_
  refine (G.loop (fun k : Nat => [(11, none, ov), (12, none, .int .i64 ((2 * k : Nat) : Int))]) (fun k W => Ext w W ∧ Owns W w.heap.size ov 3 1 ((noEndK k l).map inC) ∧ k ≤ g + 1) (fun k => g + 1 - k) 1 (by repeat (first | exact Sub.nil _ | refine Sub.cons rfl ?_)) ⟨hx09, ho9', by omega⟩ ?_)
  clear ho9' hx09 hx5
  rintro k W ⟨hx, ho, hk⟩
  have hsl := ho.sli
  have hkl : ((noEndK k l).map inC).length = 2 * g + 2 := by rw [List.length_map, noEndK_len, hll']
  refine rn ?_
  refine sAd tb (r := ((2 * k + 1 : Nat) : Int)) ?_
  refine rn ?_
  rw [hkl]
  refine rn ?_
  first | refine G.condD rfl (fun hc => ?_) (fun hc => ?_) | refine G.condN rfl (fun hc => ?_) (fun hc => ?_) | refine G.cond rfl (fun hc => ?_) (fun hc => ?_)
  · have hlt : 2 * k + 2 ≤ l.length := by omega
    obtain ⟨h1, h2⟩ := noEndK_step k l hlt
    have hget : ((noEndK k l).map inC)[2 * k + 1]? = some [.int .i64 (l.getD (2 * k + 1) 0)] := by
      rw [← h1, List.getElem?_map, List.getD_eq_getElem?_getD, List.getElem?_eq_getElem (by rw [noEndK_len]; omega)]; rfl
    refine rn ?_
    refine sAd tb (r := ((2 * k + 1 : Nat) : Int)) ?_
    refine rn ?_
    refine sIa tb (2 * k + 1) ?_ (hj := fun _ => ⟨rfl, by rw [hkl]; omega⟩)
    refine rn ?_
    first | refine G.condD rfl (fun hc => ?_) (fun hc => ?_) | refine G.condN rfl (fun hc => ?_) (fun hc => ?_) | refine G.cond rfl (fun hc => ?_) (fun hc => ?_)
    · have hneg : l.getD (2 * k + 1) 0 < 0 := by simpa using hc
      rw [if_pos hneg] at h2
      refine rn ?_
      refine sIa tb (2 * k) ?_ (hj := fun _ => ⟨rfl, by rw [hkl]; omega⟩)
      refine rn ?_
      refine sStR tb (j := 2 * k) (vs := [.int .i64 (-1)]) ho (by rw [hkl]; omega) (fun W2 ho2 hg2 => ?_)
      refine rn ?_
      refine sAd tb (r := ((2 * (k + 1) : Nat) : Int)) ?_
      refine rn ?_
      refine G.lp (x := k) (k + 1) (by repeat (first | exact Sub.nil _ | refine Sub.cons rfl ?_)) ⟨hg2.ext0 hx, ?_, by omega⟩ (by omega)
      rw [h2, List.map_set]
      exact ho2
    · have hneg : ¬ l.getD (2 * k + 1) 0 < 0 := by simpa using hc
      rw [if_neg hneg] at h2
      refine rn ?_
      refine sAd tb (r := ((2 * (k + 1) : Nat) : Int)) ?_
      refine rn ?_
      refine G.lp (x := k) (k + 1) (by repeat (first | exact Sub.nil _ | refine Sub.cons rfl ?_)) ⟨hx, ?_, by omega⟩ (by omega)
      rw [h2]
      exact ho
  · have hke : g + 1 ≤ k := by omega
    refine rn ?_
    refine G.ret2 rfl rfl rfl rfl rfl ?_
    refine ⟨hx, .inr ⟨Rx.noEnd l, ov, hgf, by rw [Rx.noEnd_len, hll'], ?_, rfl⟩⟩
    rw [← noEndK_all k l (by omega)]; exact ho
/-- a compiled expression of the reference -/
structure ExR (w : World) (pb : Nat) (s : List UInt8) (t : Rx.T) (g : Nat) : Prop where
  pr : ∃ A, PrR w A pb (Rx.progT (Rx.rot t)) g
  cp : Rx.comp s = .ok (t, g)
theorem ExR.to {w w' : World} {pb : Nat} {s : List UInt8} {t : Rx.T} {g : Nat} (h : ExR w pb s t g) (hx : Ext w w') : ExR w' pb s t g := ⟨h.pr.imp fun _ h => h.to hx, h.cp⟩
/-- what the reference's Groups tells, of an expression -/
theorem groupsE_ok (w : World) (pb g : Nat) (s : List UInt8) (t : Rx.T) (x : List UInt8) (h : ExR w pb s t g) (hxl : x.length ≤ 100000) :
    Ret Tryd.prog 16 ⟨[ptr pb, S x]⟩ w fun r w' => Ext w w' ∧ ((Rx.groupsP (Rx.progT t) g x = none ∧ r = .tuple ⟨[.slice none 0 0, .bool false]⟩) ∨ ∃ l v, Rx.groupsP (Rx.progT t) g x = some l ∧ l.length = 2 * g + 2 ∧ Owns w' w.heap.size v 3 1 (l.map inC) ∧ r = .tuple ⟨[v, .bool true]⟩) := by
  obtain ⟨⟨A, hP⟩, hcp⟩ := h
  obtain ⟨hr, hl, _⟩ := Rx.comp_ok hcp
  have hn := Rx.readP_num hr
  have := groupsR_ok w A pb g _ x hP (Rx.wf_prog ((Rx.rot_ok t).2.2 g hn.1)) (by omega) hxl
  unfold GrpR at this
  rw [Rx.groupsF_rot hr] at this
  exact this
theorem matchR_ok (w : World) (pb g : Nat) (s : List UInt8) (t : Rx.T) (x : List UInt8) (h : ExR w pb s t g) (hxl : x.length ≤ 100000) :
    Ret Tryd.prog 43 ⟨[ptr pb, S x]⟩ w fun r w' => r = .bool (Rx.mt t g x) ∧ Ext w w' := by
  refine ret_of_G Tryd.func43 rfl Tryd.ntmps43 rfl ?_
  simp only [argEnv]
  refine rn ?_
  refine sCall c16 (groupsE_ok w pb g s t x h hxl) ?_
  rintro _ W ⟨hx, ⟨hr, rfl⟩ | ⟨l, v, hr, _, ho, rfl⟩⟩
  · refine rn ?_
    refine G.ret1 rfl rfl rfl rfl ?_
    refine ⟨?_, hx⟩
    unfold Rx.groupsP at hr
    unfold Rx.mt
    rcases hq : Rx.runP (Rx.progT t) g x with _ | l
    · rfl
    · rw [hq] at hr; simp at hr
  · refine rn ?_
    refine G.ret1 rfl rfl rfl rfl ?_
    refine ⟨?_, hx⟩
    unfold Rx.groupsP at hr
    unfold Rx.mt
    rcases hq : Rx.runP (Rx.progT t) g x with _ | l
    · rw [hq] at hr; simp at hr
    · rfl
/-- what the reference's Compile tells, in other words -/
def ComR (s : List UInt8) (w : World) (r : Value) (w' : World) : Prop :=
  Ext w w' ∧ ((∃ t g pb, Rx.comp s = .ok (t, g) ∧ ExR w' pb s t g ∧ r = .tuple ⟨[ptr pb, .int .i64 0, .int .i64 0]⟩) ∨
    (∃ e f, Rx.comp s = .error (e, f) ∧ r = .tuple ⟨[.pointer none, .int .i64 (e : Nat), .int .i64 (if f = 1 then 8 else 9)]⟩))
theorem compE_ok (w : World) (s : List UInt8) (hl : s.length ≤ 9223372036854775807) : Ret Tryd.prog 12 ⟨[S s]⟩ w (ComR s w) :=
  Calls.mono (compileR_ok w s hl) fun r w' ⟨v, e, h⟩ => ⟨v, e, by
    obtain ⟨hx, h⟩ := h
    refine ⟨hx, ?_⟩
    rcases h with ⟨t, g, pb, h1, h2, h3⟩ | h
    · exact .inl ⟨t, g, pb, h1, ⟨⟨_, h2⟩, h1⟩, h3⟩
    · exact .inr h⟩
/-- does an expression mean a text -/
def meansP (s x : List UInt8) : Bool := match Rx.comp s with | .error _ => false | .ok (t, g) => Rx.mt t g x
theorem means_ok (w : World) (s x : List UInt8) (hl : s.length ≤ 9223372036854775807) (hxl : x.length ≤ 100000) :
    Ret Tryd.prog 27 ⟨[S s, S x]⟩ w fun r w' => r = .bool (meansP s x) ∧ Ext w w' := by
  refine ret_of_G Tryd.func27 rfl Tryd.ntmps27 rfl ?_
  simp only [argEnv]
  refine rn ?_
  refine sCall c12 (compE_ok w s hl) ?_
  rintro _ W ⟨hx, ⟨t, g, pb, hcp, hE, rfl⟩ | ⟨e, f, hcp, rfl⟩⟩
  · refine rn ?_
    refine sCallx c43 (fun hc => matchR_ok W pb g s t x hE hxl) ?_
    intro W2 hx2
    refine rn ?_
    refine G.ret1 rfl rfl rfl rfl ?_
    refine ⟨?_, hx.trans hx2⟩
    unfold meansP; rw [hcp]; rfl
  · have hm : meansP s x = false := by unfold meansP; rw [hcp]
    rw [hm]
    obtain ⟨fv, hfv, hne⟩ : ∃ fv : Int, fv = (if f = 1 then 8 else 9) ∧ fv ≠ 0 := ⟨_, rfl, by split <;> decide⟩
    rw [← hfv]
    refine rn ?_
    refine GL.cons (Step.callX (v := .bool false) (vs := [.pointer none, S x]) rfl rfl (by
      refine OpL.cons (Op1.of rfl (fun h => h)) ?_
      refine OpL.cons (Op1.of rfl (fun h => h)) ?_
      exact OpL.nil) c43 rfl (fun hc => absurd hc (by simp [cv, hne])) ?_)
    intro W2 hx2
    refine rn ?_
    refine G.ret1 rfl rfl rfl rfl ?_
    exact ⟨by simp [hne], hx.trans hx2⟩
end Go.Proofs.YtbpkhgehchelhaaDoor
end
section
open Go Go.Vg Go.RowKit Go.Proofs Go.Proofs.YtbpkhgehchelhaaDoor
namespace Go.Proofs.YtbpkhgehchelhaaDoor

/-- a compiled expression that may be refused for its size -/
structure MayM (w : World) (p : Option Addr) (e : Int) (m : List UInt8 → Bool) : Prop where
  or_ : e = 0 ∨ e = 9
  run : e = 0 → ∀ W, Ext w W → ∀ x : List UInt8, x.length ≤ 60 → Ret Tryd.prog 18 ⟨[.pointer p, S x]⟩ W fun r w' => r = .bool (m x) ∧ Ext W w'
theorem MayM.to {w w' : World} {p : Option Addr} {e : Int} {m : List UInt8 → Bool} (h : MayM w p e m) (hx : Ext w w') : MayM w' p e m := ⟨h.or_, fun he W hW => h.run he W (hx.trans hW)⟩
end Go.Proofs.YtbpkhgehchelhaaDoor
end
section
namespace Go.Vg
open Go.RowKit
section
variable {X : Cx} {ops : Array Oper} {l : List Oper} {k : List Kt} {e : Env} {w : World} {N : Env → World → Prop} {d : Nat} {c : Option Bool} {ty : TypeId} {pos : String} {af : Array Edge} {g : Option (Nat × Bool)} {S : World → Prop} {lb : List (Oper × Bool)}
/-- yield is called under a guard that holds -/
theorem Step.yieldC {x : Operand} {l : Nat} {args : Array Operand} {ats : Array TypeId} {lo : List Operand} {vs : List Value} {R : Bool → World → Prop} (hcv : cv c = true)
    (hg : guardE ops e ⟨some d, .call { callee := .value x, args := args, argTypes := ats }, ty, pos, af, g⟩ = some c)
    (hx : Op1 e c x (yieldV l)) (ha : args = ⟨lo⟩) (hvs : OpL e c lo vs) (hn : Nat.blt d X.n = true) (hy : YieldTo X.P l vs w R)
    (h : ∀ b w', R b w' → N ((d, c, .bool b) :: e) w') : Step X ops ⟨some d, .call { callee := .value x, args := args, argTypes := ats }, ty, pos, af, g⟩ e w N := by
  intro t K Q hf hK
  rw [guardE_wanted hf hg, if_pos hcv]
  refine ⟨fun _ _ => trivial, ?_⟩
  rw [Oper.semAt_eq _ _ _ (fun _ hh => by cases hh)]
  obtain ⟨fn, tmps, assign, body, hrun, hround⟩ := hy
  have h1 := OpL.map (ds := X.ds) hf hcv hvs
  subst ha
  have h2 : (Array.mk lo).map (Act.mk t X.ds).eval = ⟨vs⟩ := by simp [h1]
  have h3 : (Act.mk t X.ds).eval x = yieldV l := hx.val hf hcv
  have hr : (execOp (Act.mk t X.ds).eval ⟨some d, .call { callee := .value x, args := ⟨lo⟩, argTypes := ats }, ty, pos, af, g⟩).run X.P w = .ok (.round l fn tmps assign body) w := by
    simp only [execOp, resolve, h2, h3, yieldV, Deferred.ofValue, Sem.run_bind, Sem.run_pure, Result.andThen_ok, invoke, Array.empty_append, hrun]
  show Oper.uponIn _ _ _ _ _ _ _ ((execOp (Act.mk t X.ds).eval _).run X.P w)
  rw [hr]
  refine ⟨fun h => by simp [Fence.wide] at h, ?_⟩
  have h5 : RoundIn (FW X.ρ) 0 X.P l fn tmps assign body w fun en W' => ∃ b, en = .returned (.bool b) ∧ R b W' := hround
  refine h5.mono ?_
  rintro en w' ⟨b, rfl, hR⟩
  show K (Act.put _ (some d) (.bool b)) w'
  have hp := hf.put (by simpa [Nat.blt_eq] using hn) c (.bool b)
  simp only [gval, hcv] at hp
  exact hK _ _ _ (h b w' hR) hp
end
end Go.Vg
end
