/- Part of the proof of a statement about the given program. -/
import Derived.Test.YtcngoccnfmhhnaaGreatDoorP06
set_option linter.unusedSimpArgs false
set_option linter.unusedVariables false
set_option linter.unusedSectionVars false
section
open Go Go.Vg Go.RowKit Go.Proofs Go.Proofs.YtcngoccnfmhhnaaGreatDoor
namespace Go.Proofs.YtcngoccnfmhhnaaGreatDoor
open Go.Ex

theorem keepBits_ok (a : Nat) (w : World) : Ret Tryz.prog 37 ⟨[Fl a, Fl a]⟩ w fun r w' => r = .bool true ∧ Ext w w' := by
  refine ret_of_G Tryz.func37 rfl Tryz.ntmps37 rfl ?_
  simp only [argEnv]
  refine rn ?_
  refine GL.cons (Step.ext rfl rfl (by repeat (first | exact OpL.nil | refine OpL.cons (Op1.of rfl (by first | exact fun _ => rfl | exact fun h => h | exact fun h => bL h | exact fun h => bL (bL h) | exact fun h => bL (bL (bL h)))) ?_)) (run_fbits Tryz.func73 (by kernel_rfl) (by kernel_rfl) (by kernel_rfl) (by kernel_rfl) a _) rfl ?_)
  refine rn ?_
  refine GL.cons (Step.ext rfl rfl (by repeat (first | exact OpL.nil | refine OpL.cons (Op1.of rfl (by first | exact fun _ => rfl | exact fun h => h | exact fun h => bL h | exact fun h => bL (bL h) | exact fun h => bL (bL (bL h)))) ?_)) (run_fbits Tryz.func73 (by kernel_rfl) (by kernel_rfl) (by kernel_rfl) (by kernel_rfl) a _) rfl ?_)
  refine rn ?_
  refine G.ret1 rfl rfl rfl rfl ?_
  exact ⟨by simp, Ext.refl _⟩
theorem keepLines_ok (v u : Value) (a b : List Sm) (w : World) (hv : Sli w v 4 (a.map smC)) (hu : Sli w u 4 (b.map smC)) (ha : ∀ x ∈ a, Lab.Labs w x.v x.out) (hb : ∀ x ∈ b, Lab.Labs w x.v x.out) (he : a.map smP = b.map smP) :
    Ret Tryz.prog 16 ⟨[v, u]⟩ w fun r w' => r = .bool true ∧ Ext w w' := by
  have hl : a.length = b.length := by have := congrArg List.length he; simpa using this
  have hla : (a.map smC).length = a.length := by simp
  have hlb : (b.map smC).length = b.length := by simp
  have hbd := hv.bound
  refine ret_of_G Tryz.func16 rfl Tryz.ntmps16 rfl ?_
  simp only [argEnv]
  refine rn ?_
  rw [hla, hlb, hl]
  first | refine G.condD rfl (fun hc => ?_) (fun hc => ?_) | refine G.condN rfl (fun hc => ?_) (fun hc => ?_) | refine G.cond rfl (fun hc => ?_) (fun hc => ?_)
  · exact absurd rfl hc
  refine rn ?_
  refine (G.loop (fun k : Nat => [(0, none, v), (1, none, u), (5, none, .int .i64 k)]) (fun k w' => Ext w w' ∧ k ≤ a.length) (fun k => a.length - k) 0 (by repeat (first | exact Sub.nil _ | refine Sub.cons rfl ?_)) ⟨Ext.refl _, by omega⟩ ?_)
  rintro k W ⟨hx, hk⟩
  have hv1 := hv.to hx
  have hu1 := hu.to hx
  refine rn ?_
  first | refine G.condD rfl (fun hc => ?_) (fun hc => ?_) | refine G.condN rfl (fun hc => ?_) (fun hc => ?_) | refine G.cond rfl (fun hc => ?_) (fun hc => ?_)
  · have hlt : k < a.length := by omega
    obtain ⟨x, hx1⟩ : ∃ x, a[k]? = some x := ⟨_, List.getElem?_eq_getElem hlt⟩
    obtain ⟨y, hy1⟩ : ∃ y, b[k]? = some y := ⟨_, List.getElem?_eq_getElem (by omega)⟩
    have hxy : smP x = smP y := by
      have := congrArg (fun l => l[k]?) he
      simpa [hx1, hy1] using this
    have hL : x.L = y.L := congrArg Prod.fst hxy
    have hO : x.out = y.out := congrArg Prod.snd hxy
    have hgx : (a.map smC)[k]? = some (smC x) := by simp [hx1]
    have hgy : (b.map smC)[k]? = some (smC y) := by simp [hy1]
    have hxl := (ha x (List.mem_of_getElem? hx1)).to hx
    have hyl := (hb y (List.mem_of_getElem? hy1)).to hx
    unfold smC linC at hgx hgy
    refine rn ?_
    refine G.regionM [(0, true), (1, true), (2, true), (3, true), (4, true), (5, true), (6, true), (7, true), (8, true), (9, true), (10, false), (11, true), (12, true), (13, true), (14, true), (15, true), (16, true), (17, true), (18, true), (19, true), (20, true), (21, true), (22, true), (23, false), (24, true), (25, true), (26, true), (27, true), (28, true), (29, true), (30, true), (31, true), (32, true), (33, true), (34, true), (35, true), (36, true), (37, true), (38, true), (39, true), (40, true), (41, true), (42, true), (43, true), (44, true), (45, true), (46, true), (47, true), (48, true), (49, true), (50, true), (51, true)] (Ext W) (by kernel_rfl) (by kernel_rfl) rfl mixed (Ext.drew W) rfl ?_
    try (refine mm tb ?_); repeat ((first | refine dFa tb ?_ | refine dLd tb ?_ | refine dLa tb ?_ | refine dLen tb ?_ | refine dFd tb ?_ | refine dIa tb k ?_); try (refine mm tb ?_))
    have heq : Lab.eqN x.out y.out = true := decide_eq_true hO
    refine GM.eff (Step.callF rfl rfl rfl c36 rfl (Lab.keepLabels_ok x.v y.v x.out y.out W.drew (hxl.to (Ext.drew W)) (hyl.to (Ext.drew W))) ?_)
    rintro _ W2 ⟨rfl, hx2⟩
    have hx2 := (Ext.drew W).trans hx2
    refine ⟨hx2, ?_⟩
    rw [heq]
    try (refine mm tb ?_); repeat ((first | refine dFa tb ?_ | refine dLd tb ?_ | refine dLa tb ?_ | refine dLen tb ?_ | refine dFd tb ?_ | refine dIa tb k ?_); try (refine mm tb ?_))
    rw [← hL]
    have hb := keepBits_ok x.L.val W2
    refine GM.eff (Step.on rfl rfl (Step.callO rfl rfl (by repeat (first | exact OpL.nil | refine OpL.cons (Op1.of rfl (by first | exact fun _ => rfl | exact fun h => h | exact fun h => bL h | exact fun h => bL (bL h) | exact fun h => bL (bL (bL h)))) ?_)) c37 rfl hb ?_))
    rintro _ W3 ⟨rfl, hx3⟩
    have hx3 := hx2.trans hx3
    refine ⟨hx3, ?_⟩
    try (refine mm tb ?_); repeat ((first | refine dFa tb ?_ | refine dLd tb ?_ | refine dLa tb ?_ | refine dLen tb ?_ | refine dFd tb ?_ | refine dIa tb k ?_); try (refine mm tb ?_))
    refine GM.nil ?_
    have hx3 := hx.trans hx3
    refine G.cond rfl (fun hc => ?_) (fun hc => ?_)
    · exfalso
      rw [hL] at hc
      simp at hc
    · refine rn ?_
      refine sAd tb ?_
      refine rn ?_
      exact G.lp (x := k) (k + 1) (by repeat (first | exact Sub.nil _ | refine Sub.cons rfl ?_)) ⟨hx3, by omega⟩ (by omega)
  · refine rn ?_
    refine G.ret1 rfl rfl rfl rfl ?_
    exact ⟨rfl, hx⟩
end Go.Proofs.YtcngoccnfmhhnaaGreatDoor
end
section
open Go Go.Vg Go.RowKit Go.Proofs Go.Proofs.YtcngoccnfmhhnaaGreatDoor
namespace Go.Proofs.YtcngoccnfmhhnaaGreatDoor
open Go.Ex

theorem rblank_ok (c : UInt8) (w : World) : Ret Tryz.prog 66 ⟨[U c]⟩ w fun r w' => r = .bool (blB c) ∧ Ext w w' := by
  refine ret_of_G Tryz.func66 rfl Tryz.ntmps66 rfl ?_
  simp only [argEnv]
  refine rn ?_
  refine G.ret1 rfl rfl rfl rfl ?_
  refine ⟨?_, Ext.refl _⟩
  unfold blB
  congr 1
  rw [Bool.eq_iff_iff]
  simp only [Bool.or_eq_true, decide_eq_true_eq]
  omega
theorem skip_ok (s : List UInt8) (i : Nat) (w : World) (hi : i ≤ s.length) (hs : s.length ≤ 1000000000) : Ret Tryz.prog 29 ⟨[S s, .int .i64 i]⟩ w fun r w' => r = .int .i64 ((i + bls (s.drop i) : Nat) : Int) ∧ Ext w w' := by
  refine ret_of_G Tryz.func29 rfl Tryz.ntmps29 rfl ?_
  simp only [argEnv]
  refine rn ?_
  refine (G.loop (fun k : Nat => [(0, none, S s), (1, none, .int .i64 k)]) (fun k W => Ext w W ∧ i ≤ k ∧ k ≤ s.length ∧ bls (s.drop i) = (k - i) + bls (s.drop k)) (fun k => s.length - k) i (by repeat (first | exact Sub.nil _ | refine Sub.cons rfl ?_)) ⟨Ext.refl _, Nat.le_refl _, hi, by omega⟩ ?_)
  rintro k W ⟨hx, hik, hk, he⟩
  refine rn ?_
  refine sBs tb k ?_ (hj := fun hc => ⟨rfl, by have := of_decide_eq_true hc; omega⟩)
  refine rn ?_
  refine sCallx c66 (fun hc => rblank_ok _ W) ?_
  intro W2 hx2
  have hx2 := hx.trans hx2
  refine rn ?_
  by_cases hlt : k < s.length
  · rw [decide_eq_true (show (k : Int) < s.length by omega)]
    rw [drop_at hlt] at he
    simp only [bls] at he
    cases hb : blB (s.getD k 0)
    · rw [hb] at he
      simp only [Bool.false_eq_true, if_false] at he
      refine rn ?_
      refine G.ret1 rfl rfl rfl rfl ?_
      exact ⟨by rw [show i + bls (s.drop i) = k by omega], hx2⟩
    · rw [hb] at he
      simp only [if_true] at he
      refine rn ?_
      refine sAd tb ?_
      refine rn ?_
      exact G.lp (x := k) (k + 1) (by repeat (first | exact Sub.nil _ | refine Sub.cons rfl ?_)) ⟨hx2, by omega, by omega, by omega⟩ (by omega)
  · rw [decide_eq_false (show ¬ (k : Int) < s.length by omega)]
    rw [drop_no hlt] at he
    simp only [bls] at he
    refine rn ?_
    refine G.ret1 rfl rfl rfl rfl ?_
    exact ⟨by rw [show i + bls (s.drop i) = k by omega], hx2⟩
theorem rtoken_ok (s : List UInt8) (i : Nat) (w : World) (hi : i ≤ s.length) (hs : s.length ≤ 1000000000) : Ret Tryz.prog 102 ⟨[S s, .int .i64 i]⟩ w fun r w' => r = .int .i64 ((i + tokN (s.drop i) : Nat) : Int) ∧ Ext w w' := by
  refine ret_of_G Tryz.func102 rfl Tryz.ntmps102 rfl ?_
  simp only [argEnv]
  refine rn ?_
  refine (G.loop (fun k : Nat => [(0, none, S s), (1, none, .int .i64 k)]) (fun k W => Ext w W ∧ i ≤ k ∧ k ≤ s.length ∧ tokN (s.drop i) = (k - i) + tokN (s.drop k)) (fun k => s.length - k) i (by repeat (first | exact Sub.nil _ | refine Sub.cons rfl ?_)) ⟨Ext.refl _, Nat.le_refl _, hi, by omega⟩ ?_)
  rintro k W ⟨hx, hik, hk, he⟩
  refine rn ?_
  refine sBs tb k ?_ (hj := fun hc => ⟨rfl, by have := of_decide_eq_true hc; omega⟩)
  refine rn ?_
  refine sCallx c66 (fun hc => rblank_ok _ W) ?_
  intro W2 hx2
  have hx2 := hx.trans hx2
  refine rn ?_
  by_cases hlt : k < s.length
  · rw [decide_eq_true (show (k : Int) < s.length by omega)]
    rw [drop_at hlt] at he
    simp only [tokN] at he
    cases hb : blB (s.getD k 0)
    · rw [hb] at he
      simp only [Bool.false_eq_true, if_false] at he
      refine rn ?_
      refine sAd tb ?_
      refine rn ?_
      exact G.lp (x := k) (k + 1) (by repeat (first | exact Sub.nil _ | refine Sub.cons rfl ?_)) ⟨hx2, by omega, by omega, by omega⟩ (by omega)
    · rw [hb] at he
      simp only [if_true] at he
      refine rn ?_
      refine G.ret1 rfl rfl rfl rfl ?_
      exact ⟨by rw [show i + tokN (s.drop i) = k by omega], hx2⟩
  · rw [decide_eq_false (show ¬ (k : Int) < s.length by omega)]
    rw [drop_no hlt] at he
    simp only [tokN] at he
    refine rn ?_
    refine G.ret1 rfl rfl rfl rfl ?_
    exact ⟨by rw [show i + tokN (s.drop i) = k by omega], hx2⟩
theorem word_ok (s : List UInt8) (i : Nat) (colons : Bool) (w : World) (hi : i ≤ s.length) (hs : s.length ≤ 1000000000) : Ret Tryz.prog 70 ⟨[S s, .int .i64 i, .bool colons]⟩ w fun r w' => r = .int .i64 ((i + nameN colons true (s.drop i) : Nat) : Int) ∧ w' = w := by
  refine ret_of_G Tryz.func70 rfl Tryz.ntmps70 rfl ?_
  simp only [argEnv]
  refine rn ?_
  refine (G.loop (fun k : Nat => [(0, none, S s), (1, none, .int .i64 i), (2, none, .bool colons), (7, none, .int .i64 k)]) (fun k W => W = w ∧ i ≤ k ∧ k ≤ s.length ∧ nameN colons true (s.drop i) = (k - i) + nameN colons (decide (k = i)) (s.drop k)) (fun k => s.length - k) i (by repeat (first | exact Sub.nil _ | refine Sub.cons rfl ?_)) ⟨rfl, Nat.le_refl _, hi, by simp⟩ ?_)
  rintro k W ⟨rfl, hik, hk, he⟩
  refine rn ?_
  first | refine G.condD rfl (fun hc => ?_) (fun hc => ?_) | refine G.condN rfl (fun hc => ?_) (fun hc => ?_) | refine G.cond rfl (fun hc => ?_) (fun hc => ?_)
  · have hlt : k < s.length := by omega
    rw [drop_at hlt] at he
    refine rn ?_
    refine sBs tb k ?_
    refine rn ?_
    refine G.cond rfl (fun hc => ?_) (fun hc => ?_)
    · have hno : (letB colons (s.getD k 0) || (!decide (k = i) && Nm.isD (s.getD k 0))) = false := by
        cases colons <;> simp [letB, Nm.isD] at hc ⊢ <;> omega
      simp only [nameN, hno, Bool.false_eq_true, if_false] at he
      refine rn ?_
      refine G.ret1 rfl rfl rfl rfl ?_
      exact ⟨by rw [show i + nameN colons true (s.drop i) = k by omega], rfl⟩
    · have hyes : (letB colons (s.getD k 0) || (!decide (k = i) && Nm.isD (s.getD k 0))) = true := by
        cases colons <;> simp [letB, Nm.isD] at hc ⊢ <;> omega
      simp only [nameN, hyes, if_true] at he
      refine rn ?_
      refine sAd tb ?_
      refine rn ?_
      exact G.lp (x := k) (k + 1) (by repeat (first | exact Sub.nil _ | refine Sub.cons rfl ?_)) ⟨rfl, by omega, by omega, by rw [decide_eq_false (show ¬ k + 1 = i by omega)]; omega⟩ (by omega)
  · have hlt : ¬ k < s.length := by omega
    rw [drop_no hlt] at he
    simp only [nameN] at he
    refine rn ?_
    refine G.ret1 rfl rfl rfl rfl ?_
    exact ⟨by rw [show i + nameN colons true (s.drop i) = k by omega], rfl⟩
end Go.Proofs.YtcngoccnfmhhnaaGreatDoor
end
section
open Go Go.Vg Go.RowKit Go.Proofs Go.Proofs.YtcngoccnfmhhnaaGreatDoor
namespace Go.Proofs.YtcngoccnfmhhnaaGreatDoor
open Go.Ex

def rlC (s : List UInt8) (i : Nat) (bad : Bool) (wh wy : Int) (nv vv : Value) : List Value := [S s, .int .i64 i, .bool bad, .int .i64 wh, .int .i64 wy, nv, vv]
/-- the reference's line, read up to place i -/
structure Ln (w : World) (xb : Nat) (s : List UInt8) (i : Nat) (bad : Bool) (wh wy : Int) (nv vv : Value) : Prop where
  bx : Bx w xb (rlC s i bad wh wy nv vv)
  hi : i ≤ s.length
  hs : s.length ≤ 1000000000
  hw : bad = true → wy ≠ 0
theorem Ln.to {w w' : World} {xb : Nat} {s : List UInt8} {i : Nat} {bad : Bool} {wh wy : Int} {nv vv : Value} (h : Ln w xb s i bad wh wy nv vv) (hx : Ext w w') : Ln w' xb s i bad wh wy nv vv := ⟨h.bx.to hx, h.hi, h.hs, h.hw⟩
theorem Ln.kp {w w' : World} {xb c : Nat} {s : List UInt8} {i : Nat} {bad : Bool} {wh wy : Int} {nv vv : Value} (h : Ln w xb s i bad wh wy nv vv) (hx : Kp c w w') (hne : xb ≠ c) : Ln w' xb s i bad wh wy nv vv := ⟨h.bx.kp hx hne, h.hi, h.hs, h.hw⟩
theorem no_ok (w : World) (xb : Nat) (s : List UInt8) (i : Nat) (bad : Bool) (wh wy : Int) (nv vv : Value) (a e : Int) (h : Ln w xb s i bad wh wy nv vv) (he : e ≠ 0) :
    Ret Tryz.prog 125 ⟨[ptr xb, .int .i64 a, .int .i64 e]⟩ w fun _ w' => ∃ wh' wy', Ln w' xb s i true wh' wy' nv vv ∧ Kp xb w w' := by
  have hbx := h.bx
  unfold rlC at hbx
  refine ret_of_G Tryz.func125 rfl Tryz.ntmps125 rfl ?_
  simp only [argEnv]
  refine rn ?_
  cases bad
  · refine rn ?_
    refine sSf tb (fun W1 hb1 hw1 => ?_)
    have hb1 : Bx W1 xb [S s, .int .i64 i, .bool true, .int .i64 wh, .int .i64 wy, nv, vv] := hb1
    refine rn ?_
    refine sSf tb (fun W2 hb2 hw2 => ?_)
    have hb2 : Bx W2 xb [S s, .int .i64 i, .bool true, .int .i64 a, .int .i64 wy, nv, vv] := hb2
    refine rn ?_
    refine sSf tb (fun W3 hb3 hw3 => ?_)
    refine rn ?_
    refine G.end0 rfl rfl rfl ?_
    exact ⟨a, e, ⟨hb3, h.hi, h.hs, fun _ => he⟩, (hw1.kp.trans hw2.kp).trans hw3.kp⟩
  · refine rn ?_
    refine G.end0 rfl rfl rfl ?_
    exact ⟨wh, wy, h, Kp.refl _ _⟩
theorem eat_ok (w : World) (xb : Nat) (s : List UInt8) (i : Nat) (wh wy : Int) (nv vv : Value) (c : UInt8) (h : Ln w xb s i false wh wy nv vv) :
    Ret Tryz.prog 126 ⟨[ptr xb, U c]⟩ w fun _ w' => ((mustP c (s.drop i) = some (s.drop (i + 1)) ∧ Ln w' xb s (i + 1) false wh wy nv vv) ∨ (mustP c (s.drop i) = none ∧ ∃ wh' wy', Ln w' xb s i true wh' wy' nv vv)) ∧ Kp xb w w' := by
  have hbx := h.bx
  unfold rlC at hbx
  have hi := h.hi
  have hs := h.hs
  refine ret_of_G Tryz.func126 rfl Tryz.ntmps126 rfl ?_
  simp only [argEnv]
  refine rn ?_
  refine G.regionM [(0, true), (1, true), (2, true), (3, true), (4, true), (5, true), (6, true), (7, true), (8, true), (9, true), (10, true), (11, true), (12, true), (13, true), (14, true), (15, true), (16, true), (17, true), (18, true), (19, true), (20, true), (21, true), (22, true)] (Ext w) (by kernel_rfl) (by kernel_rfl) rfl mixed (Ext.drew w) rfl ?_
  refine rd ?_
  refine dBs tb i ?_ (hj := fun hc => ⟨rfl, by simp [cv] at hc; omega⟩)
  refine rd ?_
  refine GM.nil ?_
  have hd := h.to (Ext.drew w)
  have hbx := hd.bx
  unfold rlC at hbx
  refine G.cond rfl (fun hc => ?_) (fun hc => ?_)
  · have hm : mustP c (s.drop i) = none := by
      by_cases hlt : i < s.length
      · rw [drop_at hlt]
        simp only [mustP]
        rw [if_neg]
        intro e
        rw [e] at hc
        rw [decide_eq_false (show ¬ (s.length : Int) ≤ i by omega)] at hc
        simp at hc
      · rw [drop_no hlt]; rfl
    refine rn ?_
    refine sCall c125 (no_ok w.drew xb s i false wh wy nv vv i 8 hd (by decide)) ?_
    rintro _ W ⟨wh', wy', hL, hk⟩
    refine rn ?_
    exact G.ret0 rfl rfl rfl ⟨.inr ⟨hm, wh', wy', hL⟩, (Ext.drew w).kp.trans hk⟩
  · have hcc : i < s.length ∧ s.getD i 0 = c := by
      simp only [Bool.or_eq_false_iff, decide_eq_false_iff_not, Bool.not_eq_false', decide_eq_true_eq] at hc
      refine ⟨by omega, ?_⟩
      rw [← UInt8.toNat_inj]
      omega
    refine rn ?_
    refine sAd tb ?_
    refine rn ?_
    refine sSf tb (fun W3 hb3 hw3 => ?_)
    refine rn ?_
    refine G.end0 rfl rfl rfl ⟨.inl ⟨?_, ⟨hb3, hcc.1, hs, fun e => by cases e⟩⟩, (Ext.drew w).kp.trans hw3.kp⟩
    rw [drop_at hcc.1]
    simp only [mustP]
    rw [if_pos hcc.2]
theorem eatB_ok (w : World) (xb : Nat) (s : List UInt8) (i : Nat) (wh wy : Int) (nv vv : Value) (c : UInt8) (h : Ln w xb s i true wh wy nv vv) :
    Ret Tryz.prog 126 ⟨[ptr xb, U c]⟩ w fun _ w' => w' = w := by
  have hbx := h.bx
  unfold rlC at hbx
  refine ret_of_G Tryz.func126 rfl Tryz.ntmps126 rfl ?_
  simp only [argEnv]
  refine rn ?_
  exact G.ret0 rfl rfl rfl rfl
end Go.Proofs.YtcngoccnfmhhnaaGreatDoor
end
section
open Go Go.Vg Go.RowKit Go.Proofs Go.Proofs.YtcngoccnfmhhnaaGreatDoor
namespace Go.Proofs.YtcngoccnfmhhnaaGreatDoor
open Go.Ex

theorem Ln.below {w w' : World} {xb B : Nat} {s : List UInt8} {i : Nat} {bad : Bool} {wh wy : Int} {nv vv : Value} (h : Ln w xb s i bad wh wy nv vv) (hx : Below B w w') (hB : xb < B) : Ln w' xb s i bad wh wy nv vv := ⟨h.bx.below hx hB, h.hi, h.hs, h.hw⟩
def quoF : Option (List UInt8 × List UInt8) → Option (List UInt8 × List UInt8)
  | none => none
  | some (o, r) => if Lib.validD o then some (o, r) else none
theorem quoP_go {s : List UInt8} {i : Nat} (h : mustP 34 (s.drop i) = some (s.drop (i + 1))) : quoP (s.drop i) = quoF (quoGo ((s.drop (i + 1)).length + 1) [] (s.drop (i + 1))) := by
  rw [quoP_drop (must_at h).1 (must_at h).2]
  try (generalize quoGo _ _ _ = q; rcases q with _ | ⟨o, r⟩ <;> rfl)
set_option maxHeartbeats 4000000 in
theorem value_ok (w : World) (xb : Nat) (s : List UInt8) (i : Nat) (wh wy : Int) (nv vv : Value) (h : Ln w xb s i false wh wy nv vv) (hnl : ∀ k : Nat, s[k]? ≠ some 10) :
    Ret Tryz.prog 127 ⟨[ptr xb]⟩ w fun r w' => Kp xb w w' ∧ ((∃ v i', quoP (s.drop i) = some (v, s.drop i') ∧ r = S v ∧ Ln w' xb s i' false wh wy nv vv) ∨ (quoP (s.drop i) = none ∧ ∃ v i' wh' wy', r = S v ∧ Ln w' xb s i' true wh' wy' nv vv)) := by
  have hbx := h.bx
  unfold rlC at hbx
  have hi := h.hi
  have hs := h.hs
  have hxl := hbx.lt
  refine ret_of_G Tryz.func127 rfl Tryz.ntmps127 rfl ?_
  simp only [argEnv]
  refine rn ?_
  refine sCall c126 (eat_ok w xb s i wh wy nv vv 34 h) ?_
  rintro _ W1 ⟨hm, hk1⟩
  have hB1 := hk1.size
  -- what the scan starts from
  obtain ⟨k0, b0, wh0, wy0, hL0, hF⟩ : ∃ k0 b0 wh0 wy0, Ln W1 xb s k0 b0 wh0 wy0 nv vv ∧ ((b0 = false ∧ wh0 = wh ∧ wy0 = wy ∧ k0 = i + 1 ∧ mustP 34 (s.drop i) = some (s.drop (i + 1))) ∨ (b0 = true ∧ mustP 34 (s.drop i) = none)) := by
    rcases hm with ⟨h1, h2⟩ | ⟨h1, wh', wy', h2⟩
    · exact ⟨i + 1, false, wh, wy, h2, .inl ⟨rfl, rfl, rfl, rfl, h1⟩⟩
    · exact ⟨i, true, wh', wy', h2, .inr ⟨rfl, h1⟩⟩
  clear hm
  obtain ⟨F0, hF0⟩ : ∃ F0, F0 = quoGo ((s.drop (i + 1)).length + 1) [] (s.drop (i + 1)) := ⟨_, rfl⟩
  have hquo : b0 = false → quoP (s.drop i) = quoF F0 := by
    intro hb
    rcases hF with ⟨_, _, _, _, h1⟩ | ⟨h1, _⟩
    · rw [hF0]; exact quoP_go h1
    · rw [hb] at h1; cases h1
  have hqn : b0 = true → quoP (s.drop i) = none := by
    intro hb
    rcases hF with ⟨h1, _⟩ | ⟨_, h1⟩
    · rw [hb] at h1; cases h1
    · exact quoP_must h1
  refine lgN tb 6 ?_
  refine G.join (fun y : Value => [(0, none, ptr xb), (2, none, S []), (3, none, .int .i64 i), (4, none, y)]) (fun y W => Kp xb w W ∧ w.heap.size ≤ W.heap.size ∧ ∃ k bd wh1 wy1 out, Ln W xb s k bd wh1 wy1 nv vv ∧ Owns W w.heap.size y 5 1 (bysC out) ∧ out.length ≤ s.length ∧ (bd = false → b0 = false ∧ wh1 = wh ∧ wy1 = wy ∧ F0 = some (out, s.drop k)) ∧ (bd = true → b0 = true ∨ F0 = none)) ?_ ?_
  · rintro y W ⟨hk, hB, k, bd, wh1, wy1, out, hL, ho, hol, hgood, hbad⟩
    have hbx := hL.bx
    unfold rlC at hbx
    have hos := ho.sli
    refine rn ?_
    cases bd
    · obtain ⟨hb0, rfl, rfl, hF4⟩ := hgood rfl
      have hq := hquo hb0
      rw [hF4] at hq
      simp only [quoF] at hq
      refine sByS tb hos ?_
      refine rn ?_
      refine sCallx c34 (fun hc => Lab.valid_ok out W (by omega)) ?_
      intro W2 hx2
      rw [Lab.validU_D]
      have hL2 := hL.to hx2
      have ho2 := ho.to hx2
      have hk2 := hk.trans hx2.kp
      have hos2 := ho2.sli
      refine rn ?_
      cases hv : Lib.validD out
      · rw [hv] at hq
        simp only [Bool.false_eq_true, if_false] at hq
        refine rn ?_
        refine sCall c125 (no_ok W2 xb s k false wh1 wy1 nv vv i 8 hL2 (by decide)) ?_
        rintro _ W3 ⟨wh', wy', hL3, hk3⟩
        have hos3 := (ho2.kp hk3 hxl).sli
        refine rn ?_
        refine sByS tb hos3 ?_
        refine rn ?_
        refine G.ret1 rfl rfl rfl rfl ?_
        exact ⟨hk2.trans hk3, .inr ⟨hq, out, k, wh', wy', rfl, hL3⟩⟩
      · rw [hv] at hq
        simp only [if_true] at hq
        refine rn ?_
        refine sByS tb hos2 ?_
        refine rn ?_
        refine G.ret1 rfl rfl rfl rfl ?_
        exact ⟨hk2, .inl ⟨out, k, hq, rfl, hL2⟩⟩
    · have hq : quoP (s.drop i) = none := by
        rcases hbad rfl with h | h
        · exact hqn h
        · cases hb : b0
          · rw [hquo hb, h]; rfl
          · exact hqn hb
      refine sByS tb hos ?_
      refine rn ?_
      refine sCallx c34 (fun hc => Lab.valid_ok out W (by omega)) ?_
      intro W2 hx2
      have hL2 := hL.to hx2
      have hos2 := (ho.to hx2).sli
      refine rn ?_
      refine sByS tb hos2 ?_
      refine rn ?_
      refine G.ret1 rfl rfl rfl rfl ?_
      exact ⟨hk.trans hx2.kp, .inr ⟨hq, out, k, wh1, wy1, rfl, hL2⟩⟩
  · refine rn ?_
    refine (G.loop (fun x : Nat × Bool × Value => [(0, none, ptr xb), (2, none, S []), (3, none, .int .i64 i), (4, none, x.2.2)]) (fun x W => Kp xb w W ∧ ∃ wh1 wy1 out, Ln W xb s x.1 x.2.1 wh1 wy1 nv vv ∧ Owns W w.heap.size x.2.2 5 1 (bysC out) ∧ out.length ≤ x.1 ∧ (x.2.1 = false → b0 = false ∧ wh1 = wh ∧ wy1 = wy ∧ F0 = quoGo ((s.drop x.1).length + 1) out (s.drop x.1)) ∧ (x.2.1 = true → b0 = true ∨ F0 = none)) (fun x => s.length - x.1) (k0, b0, .slice none 0 0) (by repeat (first | exact Sub.nil _ | refine Sub.cons rfl ?_)) ⟨hk1, wh0, wy0, [], hL0, Owns.nil _ _ _ _, Nat.zero_le _, ?_, ?_⟩ ?_)
    · intro hb
      rcases hF with ⟨_, h2, h3, h4, _⟩ | ⟨h1, _⟩
      · exact ⟨hb, h2, h3, by rw [hF0, h4]⟩
      · rw [show b0 = true from h1] at hb; cases hb
    · intro hb; exact .inl hb
    clear hL0 hF hk1
    rintro ⟨k, bd, u⟩ W ⟨hk, wh1, wy1, out, hL, ho, hol, hgood, hbad⟩
    simp only at hL ho hol hgood hbad ⊢
    have hB := hk.size
    have hbx := hL.bx
    unfold rlC at hbx
    have hkl := hL.hi
    refine rn ?_
    cases bd
    rotate_left
    · refine rn ?_
      exact G.met u (by repeat (first | exact Sub.nil _ | refine Sub.cons rfl ?_)) ⟨hk, hB, k, true, wh1, wy1, out, hL, ho, by omega, (by intro h; cases h), fun _ => hbad rfl⟩
    obtain ⟨hb0, rfl, rfl, hF⟩ := hgood rfl
    clear hgood hbad
    refine rn ?_
    refine G.regionM [(0, true), (1, true), (2, true), (3, true), (4, true), (5, true), (6, true), (7, true), (8, true), (9, true), (10, true), (11, true), (12, true), (13, true), (14, true), (15, true), (16, true), (17, true), (18, true), (19, true), (20, true), (21, true)] (Ext W) (by kernel_rfl) (by kernel_rfl) rfl mixed (Ext.drew W) rfl ?_
    refine rd ?_
    refine dBs tb k ?_ (hj := fun hc => ⟨rfl, by simp [cv] at hc; omega⟩)
    refine rd ?_
    refine GM.nil ?_
    have hL1 := hL.to (Ext.drew W)
    have ho1 := ho.to (Ext.drew W)
    have hk1 := hk.trans (Ext.drew W).kp
    have hbx1 := hL1.bx
    unfold rlC at hbx1
    refine G.cond rfl (fun hc => ?_) (fun hc => ?_)
    · have hlt : ¬ k < s.length := by
        intro hlt
        rw [decide_eq_false (show ¬ (s.length : Int) ≤ k by omega)] at hc
        have h10 := hnl k
        rw [List.getElem?_eq_getElem hlt] at h10
        simp at hc
        apply h10
        congr 1
        rw [← UInt8.toNat_inj]
        rw [List.getElem?_eq_getElem hlt] at hc
        exact Int.ofNat.inj (by simpa using hc)
      rw [drop_no hlt] at hF
      refine rn ?_
      refine sCall c125 (no_ok W.drew xb s k false wh1 wy1 nv vv k 8 hL1 (by decide)) ?_
      rintro _ W2 ⟨wh', wy', hL2, hk2⟩
      refine rn ?_
      exact G.met u (by repeat (first | exact Sub.nil _ | refine Sub.cons rfl ?_)) ⟨hk1.trans hk2, Nat.le_trans hB hk2.size, k, true, wh', wy', out, hL2, ho1.kp hk2 hxl, by omega, (by intro h; cases h), fun _ => .inr hF⟩
    · have hlt : k < s.length := by
        simp at hc; omega
      clear hc
      rw [drop_at hlt] at hF
      refine rn ?_
      refine G.regionM [(0, true), (1, true), (2, true), (3, true), (4, true), (5, true), (6, true), (7, true), (8, true), (9, true)] (Ext W.drew) (by kernel_rfl) (by kernel_rfl) rfl mixed (Ext.drew W.drew) rfl ?_
      refine rd ?_
      refine dBs tb k ?_ (hj := fun _ => ⟨rfl, by omega⟩)
      refine rd ?_
      refine GM.nil ?_
      have hL2 := hL1.to (Ext.drew W.drew)
      have ho2 := ho1.to (Ext.drew W.drew)
      have hk2 := hk1.trans (Ext.drew W.drew).kp
      have hbx2 := hL2.bx
      unfold rlC at hbx2
      clear hbx hbx1
      refine rn ?_
      refine sAd tb ?_
      refine rn ?_
      refine sSf tb (fun W3 hb3 hw3 => ?_)
      have hL3 : Ln W3 xb s (k + 1) false wh1 wy1 nv vv := ⟨hb3, hlt, hs, fun e => by cases e⟩
      have ho3 := ho2.kp hw3.kp hxl
      have hk3 := hk2.trans hw3.kp
      have hB3 := hk3.size
      generalize s.getD k 0 = c at hF ⊢
      rw [List.length_cons] at hF
      simp only [quoGo] at hF
      refine rn ?_
      first | refine G.condD rfl (fun hc => ?_) (fun hc => ?_) | refine G.condN rfl (fun hc => ?_) (fun hc => ?_) | refine G.cond rfl (fun hc => ?_) (fun hc => ?_)
      · have h34 : c = 34 := by rw [← UInt8.toNat_inj]; show c.toNat = 34; omega
        rw [if_pos h34] at hF
        refine rn ?_
        exact G.met u (by repeat (first | exact Sub.nil _ | refine Sub.cons rfl ?_)) ⟨hk3, hB3, k + 1, false, wh1, wy1, out, hL3, ho3, by omega, fun _ => ⟨hb0, rfl, rfl, hF⟩, (by intro h; cases h)⟩
      have h34 : ¬ c = 34 := by
        intro h; subst h; apply hc; rfl
      rw [if_neg h34] at hF
      clear hc
      refine rn ?_
      refine G.condN rfl (fun hc => ?_) (fun hc => ?_)
      · have h92 : ¬ c = 92 := by
          intro h; subst h; apply hc; rfl
        rw [if_neg h92] at hF
        refine rn ?_
        refine sBs' tb (bysC [c]) ?_ (hkl := bysC_k _)
        intro v4 W4 ho4 hs4 hx4
        refine sApb tb (ho3.to hx4) ho4.sli (fun v5 W5 ho5 hg5 => ?_) (hl := by simp only [List.length_cons, List.length_nil]; omega) (hB := by have := hx4.size; omega)
        have hb5 : Below w.heap.size W3 W5 := (hx4.mono hB3).trans hg5.bl
        refine rn ?_
        exact G.lp (x := (k, false, u)) (k + 1, false, v5) (by repeat (first | exact Sub.nil _ | refine Sub.cons rfl ?_)) ⟨kp_below hk3 hb5, wh1, wy1, out ++ [c], hL3.below hb5 hxl, ho5, by simp only [List.length_append, List.length_cons, List.length_nil]; omega, fun _ => ⟨hb0, rfl, rfl, hF⟩, (by intro h; cases h)⟩ (by show s.length - (k + 1) < s.length - k; omega)
      have h92 : c = 92 := by rw [← UInt8.toNat_inj]; show c.toNat = 92; omega
      rw [if_pos h92] at hF
      clear hc
      have hbx3 := hL3.bx
      unfold rlC at hbx3
      refine rn ?_
      refine G.regionM [(0, true), (1, true), (2, true), (3, true), (4, true), (5, true), (6, true), (7, true), (8, true), (9, true)] (Ext W3) (by kernel_rfl) (by kernel_rfl) rfl mixed (Ext.drew W3) rfl ?_
      refine rd ?_
      refine GM.nil ?_
      have hL4 := hL3.to (Ext.drew W3)
      have ho4 := ho3.to (Ext.drew W3)
      have hk4 := hk3.trans (Ext.drew W3).kp
      have hB4 : w.heap.size ≤ W3.drew.heap.size := hB3
      have hbx4 := hL4.bx
      unfold rlC at hbx4
      clear hbx3 hL3 ho3 hk3 hB3 hbx2
      first | refine G.condD rfl (fun hc => ?_) (fun hc => ?_) | refine G.condN rfl (fun hc => ?_) (fun hc => ?_) | refine G.cond rfl (fun hc => ?_) (fun hc => ?_)
      · have hlt1 : ¬ k + 1 < s.length := by omega
        rw [drop_no hlt1] at hF
        simp only [escP] at hF
        refine rn ?_
        refine sCall c125 (no_ok W3.drew xb s (k + 1) false wh1 wy1 nv vv (k + 1 : Nat) 8 hL4 (by decide)) ?_
        rintro _ W5 ⟨wh', wy', hL5, hk5⟩
        refine rn ?_
        exact G.met u (by repeat (first | exact Sub.nil _ | refine Sub.cons rfl ?_)) ⟨hk4.trans hk5, Nat.le_trans hB4 hk5.size, k + 1, true, wh', wy', out, hL5, ho4.kp hk5 hxl, by omega, (by intro h; cases h), fun _ => .inr hF⟩
      have hlt1 : k + 1 < s.length := by omega
      clear hc
      rw [drop_at hlt1] at hF
      refine rn ?_
      refine G.regionM [(0, true), (1, true), (2, true), (3, true), (4, true), (5, true), (6, true), (7, true), (8, true)] (Ext W3.drew) (by kernel_rfl) (by kernel_rfl) rfl mixed (Ext.drew W3.drew) rfl ?_
      refine rd ?_
      refine dBs tb (k + 1) ?_ (hj := fun _ => ⟨rfl, by omega⟩)
      refine rd ?_
      refine GM.nil ?_
      have hL5 := hL4.to (Ext.drew W3.drew)
      have ho5 := ho4.to (Ext.drew W3.drew)
      have hk5 := hk4.trans (Ext.drew W3.drew).kp
      have hB5 : w.heap.size ≤ W3.drew.drew.heap.size := hB4
      generalize W3.drew.drew = W5 at hL5 ho5 hk5 hB5 ⊢
      refine G.join (fun y : Bool × Value => [(0, none, ptr xb), (2, none, S []), (3, none, .int .i64 i), (4, none, y.2)]) (fun y W' => Kp xb w W' ∧ ∃ out', (∃ wh' wy', Ln W' xb s (k + 1) y.1 wh' wy' nv vv ∧ (y.1 = false → wh' = wh1 ∧ wy' = wy1)) ∧ Owns W' w.heap.size y.2 5 1 (bysC out') ∧ out'.length ≤ k + 2 ∧ (y.1 = false → F0 = quoGo ((s.drop (k + 1 + 1)).length + 1) out' (s.drop (k + 1 + 1))) ∧ (y.1 = true → F0 = none)) ?_ ?_
      · clear hL5 ho5 hk5 hB5 hF hL4 ho4 hk4 hB4 hbx4
        rintro ⟨bd, u'⟩ W' ⟨hk', out', ⟨wh', wy', hL', hwz⟩, ho', hol', hg', hb'⟩
        simp only at hL' hwz ho' hg' hb' ⊢
        have hbx' := hL'.bx
        unfold rlC at hbx'
        have hw' := hL'.hw
        refine rn ?_
        refine sAd tb ?_
        refine rn ?_
        refine sSf tb (fun W6 hb6 hw6 => ?_)
        refine rn ?_
        refine G.lp (x := (k, false, u)) (k + 1 + 1, bd, u') (by repeat (first | exact Sub.nil _ | refine Sub.cons rfl ?_)) ⟨hk'.trans hw6.kp, wh', wy', out', ⟨?_, hlt1, hs, hw'⟩, ho'.kp hw6.kp hxl, by omega, fun h => ?_, fun h => .inr (hb' h)⟩ (by show s.length - (k + 1 + 1) < s.length - k; omega)
        · exact hb6
        · obtain ⟨e1, e2⟩ := hwz h
          exact ⟨hb0, e1, e2, hg' h⟩
      simp only [escP] at hF
      by_cases h92' : s.getD (k + 1) 0 = 92
      · have hc2 := h92'
        rw [if_pos h92'] at hF
        simp only at hF
        rw [quoGo_fuel _ _ _ _ ((s.drop (k + 1 + 1)).length + 1) (Nat.le_refl _) (by simp only [List.length_cons]; omega) (by omega)] at hF
        rw [hc2]
        have hbx5 := hL5.bx
        unfold rlC at hbx5
        refine rn ?_
        have hbx6 := hbx5.to (Ext.drew W5)
        refine G.regionM [(0, true), (1, true), (2, true), (3, true), (4, true), (5, true), (6, true), (7, true), (8, true), (9, true), (10, false), (11, false), (12, true)] (fun w' => Bx w' xb [S s, .int .i64 (k + 1 : Nat), .bool false, .int .i64 wh1, .int .i64 wy1, nv, vv]) (by kernel_rfl) (by kernel_rfl) rfl mixed (hbx6) rfl ?_
        refine rd ?_
        refine dLd tb (u := S s) ?_ (hc := fun w' hS _ => Bx.c0 hS rfl)
        refine rd ?_
        refine dLd tb (u := .int .i64 (k + 1 : Nat)) ?_ (hc := fun w' hS _ => Bx.ci hS (by exact rfl))
        refine rd ?_
        refine dBs tb (k + 1) ?_ (hj := fun _ => ⟨rfl, by omega⟩)
        rw [hc2]
        refine rd ?_
        refine GM.eff (Step.buildSlice tb (bysC [92]) rfl rfl rfl rfl rfl rfl (by rfl) rfl (by kernel_rfl) (by rfl) (by rfl) (bysC_k _) rfl ?_)
        intro v6 W6 ho6 hs6 hx6
        have hx56 := (Ext.drew W5).trans hx6
        have hbx7 := hbx6.to hx6
        refine ⟨hbx7, ?_⟩
        refine rd ?_
        have ho56 := ho5.to hx56
        refine GM.eff (Step.append tb rfl (Op1.of rfl (by first | exact fun _ => rfl | exact fun h => h | exact fun h => bL h | exact fun h => bL (bL h) | exact fun h => bL (bL (bL h)))) (Op1.of rfl (by first | exact fun _ => rfl | exact fun h => h | exact fun h => bL h | exact fun h => bL (bL h) | exact fun h => bL (bL (bL h)))) rfl rfl rfl (by rfl) ho56 ho6.sli (bysC_one _) (by simp only [bysC_len, List.length_cons, List.length_nil]; omega) (by simp only [bysC_len, List.length_cons, List.length_nil]; omega) (by have := hx56.size; omega) rfl ?_)
        intro v7 W7 ho7 hg7
        rw [← bysC_app] at ho7
        have hb7 : Below w.heap.size W5 W7 := (hx56.mono hB5).trans hg7.bl
        refine ⟨hbx7.grew hg7 (ho56.ne hxl), ?_⟩
        refine rd ?_
        refine GM.nil ?_
        refine rn ?_
        exact G.met (false, v7) (by repeat (first | exact Sub.nil _ | refine Sub.cons rfl ?_)) ⟨kp_below hk5 hb7, out ++ [92], ⟨wh1, wy1, hL5.below hb7 hxl, fun _ => ⟨rfl, rfl⟩⟩, ho7, by simp only [List.length_append, List.length_cons, List.length_nil]; omega, fun _ => hF, (by intro h; cases h)⟩
      rw [if_neg h92'] at hF
      by_cases h34' : s.getD (k + 1) 0 = 34
      · have hc2 := h34'
        rw [if_pos h34'] at hF
        simp only at hF
        rw [quoGo_fuel _ _ _ _ ((s.drop (k + 1 + 1)).length + 1) (Nat.le_refl _) (by simp only [List.length_cons]; omega) (by omega)] at hF
        rw [hc2]
        have hbx5 := hL5.bx
        unfold rlC at hbx5
        refine rn ?_
        have hbx6 := hbx5.to (Ext.drew W5)
        refine G.regionM [(0, true), (1, true), (2, true), (3, true), (4, true), (5, true), (6, true), (7, true), (8, true), (9, true), (10, false), (11, false), (12, true)] (fun w' => Bx w' xb [S s, .int .i64 (k + 1 : Nat), .bool false, .int .i64 wh1, .int .i64 wy1, nv, vv]) (by kernel_rfl) (by kernel_rfl) rfl mixed (hbx6) rfl ?_
        refine rd ?_
        refine dLd tb (u := S s) ?_ (hc := fun w' hS _ => Bx.c0 hS rfl)
        refine rd ?_
        refine dLd tb (u := .int .i64 (k + 1 : Nat)) ?_ (hc := fun w' hS _ => Bx.ci hS (by exact rfl))
        refine rd ?_
        refine dBs tb (k + 1) ?_ (hj := fun _ => ⟨rfl, by omega⟩)
        rw [hc2]
        refine rd ?_
        refine GM.eff (Step.buildSlice tb (bysC [34]) rfl rfl rfl rfl rfl rfl (by rfl) rfl (by kernel_rfl) (by rfl) (by rfl) (bysC_k _) rfl ?_)
        intro v6 W6 ho6 hs6 hx6
        have hx56 := (Ext.drew W5).trans hx6
        have hbx7 := hbx6.to hx6
        refine ⟨hbx7, ?_⟩
        refine rd ?_
        have ho56 := ho5.to hx56
        refine GM.eff (Step.append tb rfl (Op1.of rfl (by first | exact fun _ => rfl | exact fun h => h | exact fun h => bL h | exact fun h => bL (bL h) | exact fun h => bL (bL (bL h)))) (Op1.of rfl (by first | exact fun _ => rfl | exact fun h => h | exact fun h => bL h | exact fun h => bL (bL h) | exact fun h => bL (bL (bL h)))) rfl rfl rfl (by rfl) ho56 ho6.sli (bysC_one _) (by simp only [bysC_len, List.length_cons, List.length_nil]; omega) (by simp only [bysC_len, List.length_cons, List.length_nil]; omega) (by have := hx56.size; omega) rfl ?_)
        intro v7 W7 ho7 hg7
        rw [← bysC_app] at ho7
        have hb7 : Below w.heap.size W5 W7 := (hx56.mono hB5).trans hg7.bl
        refine ⟨hbx7.grew hg7 (ho56.ne hxl), ?_⟩
        refine rd ?_
        refine GM.nil ?_
        refine rn ?_
        exact G.met (false, v7) (by repeat (first | exact Sub.nil _ | refine Sub.cons rfl ?_)) ⟨kp_below hk5 hb7, out ++ [34], ⟨wh1, wy1, hL5.below hb7 hxl, fun _ => ⟨rfl, rfl⟩⟩, ho7, by simp only [List.length_append, List.length_cons, List.length_nil]; omega, fun _ => hF, (by intro h; cases h)⟩
      rw [if_neg h34'] at hF
      by_cases h110 : s.getD (k + 1) 0 = 110
      · have hc2 := h110
        rw [if_pos h110] at hF
        simp only at hF
        rw [quoGo_fuel _ _ _ _ ((s.drop (k + 1 + 1)).length + 1) (Nat.le_refl _) (by simp only [List.length_cons]; omega) (by omega)] at hF
        rw [hc2]
        refine rn ?_
        refine sBs' tb (bysC [10]) ?_ (hkl := bysC_k _)
        intro v6 W6 ho6 hs6 hx6
        refine sApb tb (ho5.to hx6) ho6.sli (fun v7 W7 ho7 hg7 => ?_) (hl := by simp only [List.length_cons, List.length_nil]; omega) (hB := by have := hx6.size; omega)
        have hb7 : Below w.heap.size W5 W7 := (hx6.mono hB5).trans hg7.bl
        refine rn ?_
        exact G.met (false, v7) (by repeat (first | exact Sub.nil _ | refine Sub.cons rfl ?_)) ⟨kp_below hk5 hb7, out ++ [10], ⟨wh1, wy1, hL5.below hb7 hxl, fun _ => ⟨rfl, rfl⟩⟩, ho7, by simp only [List.length_append, List.length_cons, List.length_nil]; omega, fun _ => hF, (by intro h; cases h)⟩
      rw [if_neg h110] at hF
      simp only at hF
      have hbx5 := hL5.bx
      unfold rlC at hbx5
      generalize s.getD (k + 1) 0 = c2 at h92' h34' h110 ⊢
      refine rn ?_
      first | refine G.condD rfl (fun hc => ?_) (fun hc => ?_) | refine G.condN rfl (fun hc => ?_) (fun hc => ?_) | refine G.cond rfl (fun hc => ?_) (fun hc => ?_)
      · exfalso
        apply h92'
        rw [← UInt8.toNat_inj]; show c2.toNat = 92; omega
      refine rn ?_
      first | refine G.condD rfl (fun hc => ?_) (fun hc => ?_) | refine G.condN rfl (fun hc => ?_) (fun hc => ?_) | refine G.cond rfl (fun hc => ?_) (fun hc => ?_)
      · exfalso
        apply h34'
        rw [← UInt8.toNat_inj]; show c2.toNat = 34; omega
      refine rn ?_
      first | refine G.condD rfl (fun hc => ?_) (fun hc => ?_) | refine G.condN rfl (fun hc => ?_) (fun hc => ?_) | refine G.cond rfl (fun hc => ?_) (fun hc => ?_)
      · exfalso
        apply h110
        rw [← UInt8.toNat_inj]; show c2.toNat = 110; omega
      refine rn ?_
      refine sCall c125 (no_ok W5 xb s (k + 1) false wh1 wy1 nv vv (k + 1 : Nat) 8 hL5 (by decide)) ?_
      rintro _ W6 ⟨wh', wy', hL6, hk6⟩
      refine rn ?_
      exact G.met (true, u) (by repeat (first | exact Sub.nil _ | refine Sub.cons rfl ?_)) ⟨hk5.trans hk6, out, ⟨wh', wy', hL6, (by intro h; cases h)⟩, ho5.kp hk6 hxl, by omega, (by intro h; cases h), fun _ => hF⟩
end Go.Proofs.YtcngoccnfmhhnaaGreatDoor
end
section
open Go Go.Vg Go.RowKit Go.Proofs Go.Proofs.YtcngoccnfmhhnaaGreatDoor
namespace Go.Proofs.YtcngoccnfmhhnaaGreatDoor
open Go.Ex

def strC (x : List UInt8) : List Value := [S x]
abbrev StrO (w : World) (B : Nat) (v : Value) (ls : List (List UInt8)) : Prop := Owns w B v 9 1 (ls.map strC)
theorem by_sub {w : World} {v : Value} {s : List UInt8} (h : By w v s) {i j : Nat} (hij : i ≤ j) (hj : j ≤ s.length) : By w (subS v 1 i j) ((s.drop i).take (j - i)) := by
  have hl := bysC_len s
  have := Sli.sub h (l := i) (h := j) hij (by omega)
  show Sli _ _ _ (List.map _ _)
  rw [List.map_take, List.map_drop]
  exact this
theorem bys_at {s : List UInt8} {i : Nat} (h : i < s.length) : (bysC s)[i]? = some [U (s.getD i 0)] := bysC_get h
theorem refLines_ok (v : Value) (s : List UInt8) (w : World) (hv : By w v s) (hs : s.length ≤ 1000000000) :
    Ret Tryz.prog 8 ⟨[v]⟩ w fun r w' => StrO w' w.heap.size r (linesP s) ∧ Ext w w' := by
  have hl := bysC_len s
  refine ret_of_G Tryz.func8 rfl Tryz.ntmps8 rfl ?_
  simp only [argEnv]
  refine rn ?_
  refine (G.loop (fun x : Nat × Nat × Value => [(0, none, v), (3, none, x.2.2), (4, none, .int .i64 x.2.1), (5, none, .int .i64 x.1)]) (fun x W => Ext w W ∧ x.2.1 ≤ x.1 ∧ x.1 ≤ s.length ∧ ∃ out, StrO W w.heap.size x.2.2 out ∧ out.length ≤ x.1 ∧ linesP s = out ++ linesGo ((s.drop x.2.1).take (x.1 - x.2.1)) (s.drop x.1)) (fun x => s.length - x.1) (0, 0, .slice none 0 0) (by repeat (first | exact Sub.nil _ | refine Sub.cons rfl ?_)) ⟨Ext.refl _, Nat.le_refl _, Nat.zero_le _, [], Owns.nil _ _ _ _, Nat.le_refl _, by simp [linesP]⟩ ?_)
  rintro ⟨i, fr, u⟩ W ⟨hx, hfi, hil, out, ho, hol, he⟩
  simp only at hfi hil ho hol he ⊢
  have hvW := hv.to hx
  have hsz := hx.size
  refine rn ?_
  first | refine G.condD rfl (fun hc => ?_) (fun hc => ?_) | refine G.condN rfl (fun hc => ?_) (fun hc => ?_) | refine G.cond rfl (fun hc => ?_) (fun hc => ?_)
  · have hlt : i < s.length := by omega
    have hget := bys_at hlt
    rw [drop_at hlt] at he
    generalize hce : s.getD i 0 = c at hget he
    try (first | refine gl tb ?_ | refine gg tb ?_ | refine ll tb ?_ | refine lg tb ?_); repeat ((first | refine G.condT rfl ?_ | refine G.condF rfl ?_ | refine sFa tb ?_ | refine sLd tb ?_ | refine sLa tb ?_ | refine sLen tb ?_ | refine sFd tb ?_ | refine sBd tb ?_ | refine sIa tb i ?_); try (first | refine gl tb ?_ | refine gg tb ?_ | refine ll tb ?_ | refine lg tb ?_))
    refine G.condD rfl (fun hc => ?_) (fun hc => ?_)
    · have hc10 : c = 10 := by rw [← UInt8.toNat_inj]; show c.toNat = 10; omega
      rw [linesGo, if_pos hc10] at he
      refine rn ?_
      refine GL.cons (Step.sliceVlh tb fr i rfl (Op1.of rfl (by first | exact fun _ => rfl | exact fun h => h | exact fun h => bL h | exact fun h => bL (bL h) | exact fun h => bL (bL (bL h)))) (Op1.of rfl (by first | exact fun _ => rfl | exact fun h => h | exact fun h => bL h | exact fun h => bL (bL h) | exact fun h => bL (bL (bL h)))) (Op1.of rfl (by first | exact fun _ => rfl | exact fun h => h | exact fun h => bL h | exact fun h => bL (bL h) | exact fun h => bL (bL (bL h)))) rfl rfl (fun _ => ⟨_, hvW⟩) (fun _ => ⟨rfl, rfl, by omega, by omega⟩) rfl ?_)
      have hsb := by_sub hvW hfi hil
      generalize (s.drop fr).take (i - fr) = cur at hsb he
      refine sByS tb hsb ?_
      refine rn ?_
      refine sBs' tb [strC cur] (fun us W2 ho2 hs2 hx2 => ?_) (hkl := by simp [strC])
      refine sApp tb (ho.to hx2) ho2.sli (fun v' W3 hv3 hg3 => ?_) (h1 := by
        intro y hy c hc
        obtain rfl := List.mem_singleton.1 hy
        obtain rfl := List.mem_singleton.1 hc
        rfl) (hB := by omega)
      have hx3 : Ext w W3 := Below.trans (B := w.heap.size) (hx.trans hx2) hg3.bl
      have hv3 : StrO W3 w.heap.size v' (out ++ [cur]) := by unfold StrO; rw [List.map_append]; exact hv3
      refine rn ?_
      refine sAd tb ?_
      refine rn ?_
      refine sAd tb ?_
      refine rn ?_
      refine G.lp (x := (i, fr, u)) (i + 1, i + 1, v') (by repeat (first | exact Sub.nil _ | refine Sub.cons rfl ?_)) ⟨hx3, Nat.le_refl _, hlt, out ++ [cur], hv3, by simp only [List.length_append, List.length_cons, List.length_nil]; omega, ?_⟩ (by show s.length - (i + 1) < s.length - i; omega)
      rw [he]; simp
    · have hc10 : ¬ c = 10 := by
        intro h10; subst h10; apply hc; rfl
      rw [linesGo, if_neg hc10] at he
      refine rn ?_
      refine sAd tb ?_
      refine rn ?_
      refine G.lp (x := (i, fr, u)) (i + 1, fr, u) (by repeat (first | exact Sub.nil _ | refine Sub.cons rfl ?_)) ⟨hx, by show fr ≤ i + 1; omega, hlt, out, ho, by show out.length ≤ i + 1; omega, ?_⟩ (by show s.length - (i + 1) < s.length - i; omega)
      rw [he]
      show _ = out ++ linesGo ((s.drop fr).take (i + 1 - fr)) (s.drop (i + 1))
      congr 2
      rw [show i + 1 - fr = (i - fr) + 1 by omega, List.take_add_one, List.getElem?_drop, show fr + (i - fr) = i by omega, List.getElem?_eq_getElem hlt]
      congr 1
      rw [← hce, List.getD_eq_getElem?_getD, List.getElem?_eq_getElem hlt]; rfl
  · obtain rfl : i = s.length := by omega
    rw [List.drop_length, linesGo] at he
    have htk : (s.drop fr).take (s.length - fr) = s.drop fr := List.take_of_length_le (by rw [List.length_drop]; omega)
    rw [htk] at he
    refine rn ?_
    first | refine G.condD rfl (fun hc => ?_) (fun hc => ?_) | refine G.condN rfl (fun hc => ?_) (fun hc => ?_) | refine G.cond rfl (fun hc => ?_) (fun hc => ?_)
    · have hne : s.drop fr ≠ [] := by
        intro h0
        have := congrArg List.length h0
        simp only [List.length_drop, List.length_nil] at this
        omega
      rw [if_neg hne] at he
      refine rn ?_
      refine GL.cons (Step.sliceVl tb fr rfl (Op1.of rfl (by first | exact fun _ => rfl | exact fun h => h | exact fun h => bL h | exact fun h => bL (bL h) | exact fun h => bL (bL (bL h)))) (Op1.of rfl (by first | exact fun _ => rfl | exact fun h => h | exact fun h => bL h | exact fun h => bL (bL h) | exact fun h => bL (bL (bL h)))) rfl rfl (fun _ => ⟨_, hvW⟩) (fun _ => ⟨rfl, by omega⟩) rfl ?_)
      have hsb := by_sub hvW hfi (Nat.le_refl _)
      rw [htk, ← hl] at hsb
      generalize s.drop fr = cur at hsb he
      refine sByS tb hsb ?_
      refine rn ?_
      refine sBs' tb [strC cur] (fun us W2 ho2 hs2 hx2 => ?_) (hkl := by simp [strC])
      refine sApp tb (ho.to hx2) ho2.sli (fun v' W3 hv3 hg3 => ?_) (h1 := by
        intro y hy c hc
        obtain rfl := List.mem_singleton.1 hy
        obtain rfl := List.mem_singleton.1 hc
        rfl) (hB := by omega)
      have hx3 : Ext w W3 := Below.trans (B := w.heap.size) (hx.trans hx2) hg3.bl
      have hv3 : StrO W3 w.heap.size v' (out ++ [cur]) := by unfold StrO; rw [List.map_append]; exact hv3
      refine rn ?_
      refine G.ret1 rfl rfl rfl rfl ?_
      exact ⟨by rw [he]; exact hv3, hx3⟩
    · have hne : s.drop fr = [] := drop_no (by omega)
      rw [if_pos hne, List.append_nil] at he
      refine rn ?_
      refine G.ret1 rfl rfl rfl rfl ?_
      exact ⟨by rw [he]; exact ho, hx⟩
theorem clip_ok (v : Value) (s : List UInt8) (w : World) (hv : By w v s) :
    Ret Tryz.prog 7 ⟨[v]⟩ w fun r w' => (∀ W, By W v s → By W r (s.take 1500)) ∧ w' = w := by
  have hl := bysC_len s
  refine ret_of_G Tryz.func7 rfl Tryz.ntmps7 rfl ?_
  simp only [argEnv]
  refine rn ?_
  first | refine G.condD rfl (fun hc => ?_) (fun hc => ?_) | refine G.condN rfl (fun hc => ?_) (fun hc => ?_) | refine G.cond rfl (fun hc => ?_) (fun hc => ?_)
  · refine rn ?_
    refine GL.cons (Step.sliceVh tb 1500 rfl (Op1.of rfl (by first | exact fun _ => rfl | exact fun h => h | exact fun h => bL h | exact fun h => bL (bL h) | exact fun h => bL (bL (bL h)))) (Op1.of rfl (by first | exact fun _ => rfl | exact fun h => h | exact fun h => bL h | exact fun h => bL (bL h) | exact fun h => bL (bL (bL h)))) rfl rfl (fun _ => ⟨_, hv⟩) (fun _ => ⟨rfl, by omega⟩) rfl ?_)
    refine rn ?_
    refine G.ret1 rfl rfl rfl rfl ?_
    refine ⟨fun W hW => ?_, rfl⟩
    have := by_sub hW (i := 0) (j := 1500) (Nat.zero_le _) (by omega)
    simpa using this
  · refine rn ?_
    refine G.ret1 rfl rfl rfl rfl ?_
    exact ⟨fun W hW => by rw [List.take_of_length_le (by omega)]; exact hW, rfl⟩
end Go.Proofs.YtcngoccnfmhhnaaGreatDoor
end
section
open Go Go.Vg Go.RowKit Go.Proofs Go.Proofs.YtcngoccnfmhhnaaGreatDoor
namespace Go.Proofs.YtcngoccnfmhhnaaGreatDoor
open Go.Ex

theorem valueB_ok (w : World) (xb : Nat) (s : List UInt8) (i : Nat) (wh wy : Int) (nv vv : Value) (h : Ln w xb s i true wh wy nv vv) :
    Ret Tryz.prog 127 ⟨[ptr xb]⟩ w fun r w' => r = S [] ∧ Ext w w' := by
  have hbx := h.bx
  unfold rlC at hbx
  refine ret_of_G Tryz.func127 rfl Tryz.ntmps127 rfl ?_
  simp only [argEnv]
  refine rn ?_
  refine sCall c126 (eatB_ok w xb s i wh wy nv vv 34 h) ?_
  rintro _ W1 hW
  obtain rfl : w = W1 := hW.symm
  refine rn ?_
  refine (G.loop (fun _ : Unit => [(0, none, ptr xb), (2, none, S []), (3, none, .int .i64 i), (4, none, .slice none 0 0)]) (fun _ W => W = w) (fun _ => 0) () (by repeat (first | exact Sub.nil _ | refine Sub.cons rfl ?_)) rfl ?_)
  rintro _ W rfl
  refine rn ?_
  have hnil : By W (.slice none 0 0) [] := Sli.nil _ _
  refine sByS tb hnil ?_
  refine rn ?_
  refine sCallx c34 (fun hc => Lab.valid_ok [] W (by decide)) ?_
  intro W2 hx2
  have hnil2 : By W2 (.slice none 0 0) [] := Sli.nil _ _
  refine rn ?_
  refine sByS tb hnil2 ?_
  refine rn ?_
  refine G.ret1 rfl rfl rfl rfl ?_
  exact ⟨rfl, hx2⟩
/-- the names and the values that were read -/
structure NV (W : World) (B : Nat) (nv vv : Value) (ls : List (List UInt8 × List UInt8)) : Prop where
  n : StrO W B nv (ls.map (·.1))
  v : StrO W B vv (ls.map (·.2))
  ne : ∀ g, nv.ownBlock = some g → vv.ownBlock ≠ some g
theorem NV.to {W W' : World} {B : Nat} {nv vv : Value} {ls : List (List UInt8 × List UInt8)} (h : NV W B nv vv ls) (hx : Ext W W') : NV W' B nv vv ls := ⟨h.n.to hx, h.v.to hx, h.ne⟩
theorem NV.kp {W W' : World} {B c : Nat} {nv vv : Value} {ls : List (List UInt8 × List UInt8)} (h : NV W B nv vv ls) (hx : Kp c W W') (hc : c < B) : NV W' B nv vv ls := ⟨h.n.kp hx hc, h.v.kp hx hc, h.ne⟩
theorem str1 (x : List UInt8) : ∀ y ∈ [strC x], ∀ c ∈ y, c.oneCell' = true := by
  intro y hy c hc
  obtain rfl := List.mem_singleton.1 hy
  obtain rfl := List.mem_singleton.1 hc
  rfl
set_option maxHeartbeats 4000000 in
theorem labelsL_ok (w : World) (xb : Nat) (s : List UInt8) (i : Nat) (wh wy : Int) (h : Ln w xb s i false wh wy (.slice none 0 0) (.slice none 0 0)) (hnl : ∀ k : Nat, s[k]? ≠ some 10) (hd : (s.drop i).head? = some 123) :
    Ret Tryz.prog 100 ⟨[ptr xb]⟩ w fun _ w' => Kp xb w w' ∧ ((∃ ls i' nv vv, labsP (s.drop i) = some (ls, s.drop i') ∧ Ln w' xb s i' false wh wy nv vv ∧ NV w' w.heap.size nv vv ls) ∨ (labsP (s.drop i) = none ∧ ∃ i' wh' wy' nv vv, Ln w' xb s i' true wh' wy' nv vv)) := by
  have hbx := h.bx
  unfold rlC at hbx
  have hi := h.hi
  have hs := h.hs
  have hxl := hbx.lt
  have hlt0 := head_lt hd
  have hmu : mustP 123 (s.drop i) = some (s.drop (i + 1)) := by
    rw [drop_at hlt0] at hd ⊢
    simp only [mustP]
    rw [if_pos (by simpa using hd)]
  obtain ⟨F0, hF0⟩ : ∃ F0, F0 = labGo ((s.drop (i + 1)).length + 1) [] (skipB (s.drop (i + 1))) := ⟨_, rfl⟩
  have hsome : ∀ ls l2, F0 = some (ls, l2) → labsP (s.drop i) = (mustP 125 l2).map (fun l3 => (ls, l3)) := by
    intro ls l2 hF
    unfold labsP
    rw [hmu]
    simp only
    rw [← hF0, hF]
    simp only
    cases mustP 125 l2 <;> rfl
  have hnone : F0 = none → labsP (s.drop i) = none := by
    intro hF
    unfold labsP
    rw [hmu]
    simp only
    rw [← hF0, hF]
  refine ret_of_G Tryz.func100 rfl Tryz.ntmps100 rfl ?_
  simp only [argEnv]
  refine rn ?_
  refine sAd tb ?_
  refine rn ?_
  refine sSf tb (fun W1 hb1 hw1 => ?_)
  have hL1 : Ln W1 xb s (i + 1) false wh wy (.slice none 0 0) (.slice none 0 0) := ⟨hb1, hlt0, hs, fun e => by cases e⟩
  refine rn ?_
  refine (G.loop (fun x : Nat × Bool => [(0, none, ptr xb)]) (fun x W => Kp xb w W ∧ ∃ wh1 wy1 nv vv acc, Ln W xb s x.1 x.2 wh1 wy1 nv vv ∧ NV W w.heap.size nv vv acc ∧ acc.length ≤ x.1 ∧ (x.2 = false → wh1 = wh ∧ wy1 = wy ∧ F0 = labGo ((s.drop x.1).length + 1) acc (skipB (s.drop x.1))) ∧ (x.2 = true → F0 = none)) (fun x => s.length - x.1) (i + 1, false) (by repeat (first | exact Sub.nil _ | refine Sub.cons rfl ?_)) ⟨hw1.kp, wh, wy, _, _, [], hL1, ⟨Owns.nil _ _ _ _, Owns.nil _ _ _ _, by simp [Value.ownBlock]⟩, Nat.zero_le _, fun _ => ⟨rfl, rfl, hF0⟩, (by intro h; cases h)⟩ ?_)
  clear hL1 hb1 hw1 hbx
  rintro ⟨k, bd⟩ W ⟨hk, wh1, wy1, nv, vv, acc, hL, hN, hal, hgood, hbad⟩
  simp only at hL hal hgood hbad ⊢
  have hB := hk.size
  have hkl := hL.hi
  have hbx := hL.bx
  unfold rlC at hbx
  refine rn ?_
  cases bd
  rotate_left
  · refine rn ?_
    refine G.end0 rfl rfl rfl ⟨hk, .inr ⟨hnone (hbad rfl), k, wh1, wy1, nv, vv, hL⟩⟩
  obtain ⟨rfl, rfl, hF⟩ := hgood rfl
  clear hgood hbad
  refine rn ?_
  have hsb := (hL).to (Ext.drew W); refine G.regionZ 12 [(0, true), (1, true), (2, true), (3, true), (4, true), (5, true), (6, true), (7, true), (8, true), (9, false), (10, true), (11, true)] (fun w' => Ext (World.drew W) w' ∧ Ln w' xb s k false _ _ _ _) (by kernel_rfl) (by kernel_rfl) rfl mixed (⟨Ext.refl _, hsb⟩) rfl rfl ?_; (refine rd ?_); refine dLd tb (u := S s) ?_ (hc := fun w' hS _ => Bx.c0 hS.2.bx rfl); (refine rd ?_); refine dLd tb (u := .int .i64 (k : Nat)) ?_ (hc := fun w' hS _ => Bx.ci (i := 1) hS.2.bx (by exact rfl)); (refine rd ?_); refine GM.eff (Step.callX rfl rfl (by repeat (first | exact OpL.nil | refine OpL.cons (Op1.of rfl (by first | exact fun _ => rfl | exact fun h => h | exact fun h => bL h | exact fun h => bL (bL h) | exact fun h => bL (bL (bL h)))) ?_)) c29 rfl (fun hc => skip_ok s k _ hsb.hi hsb.hs) ?_); intro W2 hxS; have hLS := hsb.to hxS; have hkS : Kp xb W W2 := ((Ext.drew W).trans hxS).kp; refine ⟨⟨hxS, hLS⟩, ?_⟩; clear hsb hxS; (refine rd ?_); refine GM.nil ?_; have hsbx := hLS.bx; unfold rlC at hsbx; refine zSf tb (fun W3 hbZ hwZ => ?_); have hL3 : Ln W3 xb s (k + bls (s.drop k)) false _ _ _ _ := ⟨hbZ, by have := bls_le (s.drop k); rw [List.length_drop] at this; have := hLS.hi; omega, hLS.hs, hLS.hw⟩; have hk3 := hkS.trans hwZ.kp; clear hLS hkS hsbx hbZ hwZ
  have hsk := skipB_drop s k
  rw [hsk] at hF
  have hN3 := hN.kp hk3 hxl
  have hk3 := hk.trans hk3
  have hkb : k ≤ k + bls (s.drop k) := by omega
  generalize k + bls (s.drop k) = k0 at hL3 hF hkb
  have hbx3 := hL3.bx
  unfold rlC at hbx3
  have hk0l := hL3.hi
  refine rn ?_
  refine G.regionM [(0, true), (1, true), (2, true), (3, true), (4, true), (5, true), (6, true), (7, true), (8, true), (9, true), (10, true), (11, true), (12, true), (13, true), (14, true), (15, true), (16, true), (17, true), (18, true), (19, true), (20, true), (21, true)] (Ext W3) (by kernel_rfl) (by kernel_rfl) rfl mixed (Ext.drew W3) rfl ?_
  refine rd ?_
  refine dBs tb k0 ?_ (hj := fun hc => ⟨rfl, by have := of_decide_eq_true hc; omega⟩)
  refine rd ?_
  refine GM.nil ?_
  have hL4 := hL3.to (Ext.drew W3)
  have hN4 := hN3.to (Ext.drew W3)
  have hk4 := hk3.trans (Ext.drew W3).kp
  have hB4 : w.heap.size ≤ W3.drew.heap.size := hk4.size
  generalize W3.drew = W4 at hL4 hN4 hk4 hB4 ⊢
  clear hbx hbx3 hL3 hN3 hk3 hL hN hk hB
  have hbx4 := hL4.bx
  unfold rlC at hbx4
  have hgo : labGo ((s.drop k).length + 1) acc (s.drop k0) = if (s.drop k0).head? = some 125 then some (acc, s.drop k0) else match labP (s.drop k0) with
      | none => none
      | some (x, r) => if x.1 ∈ acc.map (·.1) then none
        else if (skipB r).head? = some 44 then labGo (s.drop k).length (acc ++ [x]) (skipB ((skipB r).drop 1))
        else some (acc ++ [x], skipB r) := by
    simp only [labGo]
    try rfl
  rw [hgo] at hF
  clear hgo
  refine G.cond rfl (fun hc => ?_) (fun hc => ?_)
  · have hh : (s.drop k0).head? = some 125 := by
      simp only [Bool.and_eq_true, decide_eq_true_eq] at hc
      rw [drop_at (by omega)]
      simp only [List.head?_cons, Option.some.injEq]
      rw [← UInt8.toNat_inj]
      show _ = 125
      omega
    rw [if_pos hh] at hF
    have hlt := head_lt hh
    have hm : mustP 125 (s.drop k0) = some (s.drop (k0 + 1)) := by
      rw [drop_at hlt] at hh ⊢
      simp only [mustP]
      rw [if_pos (by simpa using hh)]
    refine rn ?_
    refine sAd tb ?_
    refine rn ?_
    refine sSf tb (fun W5 hb5 hw5 => ?_)
    refine rn ?_
    refine G.ret0 rfl rfl rfl ⟨hk4.trans hw5.kp, .inl ⟨acc, k0 + 1, nv, vv, ?_, ⟨hb5, hlt, hs, (by intro h; cases h)⟩, hN4.kp hw5.kp hxl⟩⟩
    rw [hsome _ _ hF, hm]; rfl
  have hh : ¬ (s.drop k0).head? = some 125 := by
    intro hh
    have hlt := head_lt hh
    rw [drop_at hlt] at hh
    have h5 : s.getD k0 0 = 125 := by simpa using hh
    rw [h5] at hc
    rw [decide_eq_true (show (k0 : Int) < s.length by omega)] at hc
    simp at hc
  rw [if_neg hh] at hF
  clear hc hh
  refine rn ?_
  refine sCall c70 (word_ok s k0 false W4 hk0l hs) ?_
  rintro _ W5 ⟨rfl, hW5⟩
  obtain rfl : W4 = W5 := hW5.symm
  have hnle := nameN_le (s.drop k0) false true
  rw [List.length_drop] at hnle
  have hnm : nameP false (s.drop k0) = if nameN false true (s.drop k0) = 0 then none else some ((s.drop k0).take (nameN false true (s.drop k0)), s.drop (k0 + nameN false true (s.drop k0))) := by
    unfold nameP; rw [List.drop_drop]
  generalize hq : nameN false true (s.drop k0) = q at hnle hnm ⊢
  have hk1l : k0 + q ≤ s.length := by omega
  refine rn ?_
  refine sSf tb (fun W6 hb6 hw6 => ?_)
  have hL6 : Ln W6 xb s (k0 + q) false wh1 wy1 nv vv := ⟨hb6, hk1l, hs, (by intro h; cases h)⟩
  have hN6 := hN4.kp hw6.kp hxl
  have hk6 := hk4.trans hw6.kp
  clear hb6 hw6 hL4 hN4 hk4 hbx4
  have hbx6 := hL6.bx
  unfold rlC at hbx6
  refine rn ?_
  first | refine G.condD rfl (fun hc => ?_) (fun hc => ?_) | refine G.condN rfl (fun hc => ?_) (fun hc => ?_) | refine G.cond rfl (fun hc => ?_) (fun hc => ?_)
  · have hq0 : q = 0 := by omega
    rw [if_pos hq0] at hnm
    have hl : labP (s.drop k0) = none := by unfold labP; rw [hnm]
    rw [hl] at hF
    refine rn ?_
    refine sCall c125 (no_ok W6 xb s (k0 + q) false wh1 wy1 nv vv (k0 + q : Nat) 8 hL6 (by decide)) ?_
    rintro _ W7 ⟨wh', wy', hL7, hk7⟩
    refine rn ?_
    exact G.ret0 rfl rfl rfl ⟨hk6.trans hk7, .inr ⟨hnone hF, _, _, _, _, _, hL7⟩⟩
  have hq0 : ¬ q = 0 := by intro h; apply hc; omega
  rw [if_neg hq0] at hnm
  clear hc hq
  obtain ⟨n, hn⟩ : ∃ n, n = (s.drop k0).take q := ⟨_, rfl⟩
  rw [← hn] at hnm
  refine rn ?_
  refine G.regionM [(0, true), (1, true), (2, true), (3, true), (4, true), (5, true), (6, true), (7, true), (8, true), (9, true), (10, true)] (Ext W6) (by kernel_rfl) (by kernel_rfl) rfl mixed (Ext.drew W6) rfl ?_
  refine rd ?_
  refine GM.read (fun w' hS => Step.sliceS tb k0 (k0 + q) rfl (Op1.of rfl (by first | exact fun _ => rfl | exact fun h => h | exact fun h => bL h | exact fun h => bL (bL h) | exact fun h => bL (bL (bL h)))) (Op1.of rfl (by first | exact fun _ => rfl | exact fun h => h | exact fun h => bL h | exact fun h => bL (bL h) | exact fun h => bL (bL (bL h)))) (Op1.of rfl (by first | exact fun _ => rfl | exact fun h => h | exact fun h => bL h | exact fun h => bL (bL h) | exact fun h => bL (bL (bL h)))) rfl (fun _ => ⟨rfl, rfl, by omega, by omega⟩) rfl ⟨rfl, rfl⟩) rfl rfl ?_
  refine rd ?_
  refine GM.nil ?_
  rw [show k0 + q - k0 = q by omega, ← hn]
  have hL7 := hL6.to (Ext.drew W6)
  have hN7 := hN6.to (Ext.drew W6)
  have hk7 := hk6.trans (Ext.drew W6).kp
  generalize W6.drew = W7 at hL7 hN7 hk7 ⊢
  clear hL6 hN6 hk6 hbx6
  generalize hk1 : k0 + q = k1 at hL7 hnm hk1l
  refine rn ?_
  have hsb := (hL7).to (Ext.drew W7); refine G.regionZ 12 [(0, true), (1, true), (2, true), (3, true), (4, true), (5, true), (6, true), (7, true), (8, true), (9, false), (10, true), (11, true)] (fun w' => Ext (World.drew W7) w' ∧ Ln w' xb s k1 false _ _ _ _) (by kernel_rfl) (by kernel_rfl) rfl mixed (⟨Ext.refl _, hsb⟩) rfl rfl ?_; (refine rd ?_); refine dLd tb (u := S s) ?_ (hc := fun w' hS _ => Bx.c0 hS.2.bx rfl); (refine rd ?_); refine dLd tb (u := .int .i64 (k1 : Nat)) ?_ (hc := fun w' hS _ => Bx.ci (i := 1) hS.2.bx (by exact rfl)); (refine rd ?_); refine GM.eff (Step.callX rfl rfl (by repeat (first | exact OpL.nil | refine OpL.cons (Op1.of rfl (by first | exact fun _ => rfl | exact fun h => h | exact fun h => bL h | exact fun h => bL (bL h) | exact fun h => bL (bL (bL h)))) ?_)) c29 rfl (fun hc => skip_ok s k1 _ hsb.hi hsb.hs) ?_); intro W8 hxS; have hLS := hsb.to hxS; have hkS : Kp xb W7 W8 := ((Ext.drew W7).trans hxS).kp; refine ⟨⟨hxS, hLS⟩, ?_⟩; clear hsb hxS; (refine rd ?_); refine GM.nil ?_; have hsbx := hLS.bx; unfold rlC at hsbx; refine zSf tb (fun W9 hbZ hwZ => ?_); have hL9 : Ln W9 xb s (k1 + bls (s.drop k1)) false _ _ _ _ := ⟨hbZ, by have := bls_le (s.drop k1); rw [List.length_drop] at this; have := hLS.hi; omega, hLS.hs, hLS.hw⟩; have hk9 := hkS.trans hwZ.kp; clear hLS hkS hsbx hbZ hwZ
  have hN9 := hN7.kp hk9 hxl
  have hk9 := hk7.trans hk9
  have hsk1 := skipB_drop s k1
  generalize k1 + bls (s.drop k1) = k2 at hL9 hsk1
  clear hL7 hN7 hk7
  refine rn ?_
  refine sCall c126 (eat_ok W9 xb s k2 wh1 wy1 nv vv 61 hL9) ?_
  rintro _ W10 ⟨hm, hk10⟩
  have hN10 := hN9.kp hk10 hxl
  have hk10 := hk9.trans hk10
  obtain ⟨k3, bd3, wh3, wy3, hL10, hg3, hb3⟩ : ∃ k3 bd3 wh3 wy3, Ln W10 xb s k3 bd3 wh3 wy3 nv vv ∧ (bd3 = false → wh3 = wh1 ∧ wy3 = wy1 ∧ k3 = k2 + 1 ∧ mustP 61 (s.drop k2) = some (s.drop (k2 + 1))) ∧ (bd3 = true → F0 = none) := by
    rcases hm with ⟨h1, h2⟩ | ⟨h1, wh', wy', h2⟩
    · exact ⟨k2 + 1, false, wh1, wy1, h2, fun _ => ⟨rfl, rfl, rfl, h1⟩, (by intro h; cases h)⟩
    · refine ⟨k2, true, wh', wy', h2, (by intro h; cases h), fun _ => ?_⟩
      have hl : labP (s.drop k0) = none := by unfold labP; rw [hnm]; simp only; rw [hsk1, h1]
      rw [hF, hl]
  clear hm hL9 hN9 hk9
  refine rn ?_
  have hsb := (hL10).to (Ext.drew W10); refine G.regionZ 12 [(0, true), (1, true), (2, true), (3, true), (4, true), (5, true), (6, true), (7, true), (8, true), (9, false), (10, true), (11, true)] (fun w' => Ext (World.drew W10) w' ∧ Ln w' xb s k3 bd3 _ _ _ _) (by kernel_rfl) (by kernel_rfl) rfl mixed (⟨Ext.refl _, hsb⟩) rfl rfl ?_; (refine rd ?_); refine dLd tb (u := S s) ?_ (hc := fun w' hS _ => Bx.c0 hS.2.bx rfl); (refine rd ?_); refine dLd tb (u := .int .i64 (k3 : Nat)) ?_ (hc := fun w' hS _ => Bx.ci (i := 1) hS.2.bx (by exact rfl)); (refine rd ?_); refine GM.eff (Step.callX rfl rfl (by repeat (first | exact OpL.nil | refine OpL.cons (Op1.of rfl (by first | exact fun _ => rfl | exact fun h => h | exact fun h => bL h | exact fun h => bL (bL h) | exact fun h => bL (bL (bL h)))) ?_)) c29 rfl (fun hc => skip_ok s k3 _ hsb.hi hsb.hs) ?_); intro W11 hxS; have hLS := hsb.to hxS; have hkS : Kp xb W10 W11 := ((Ext.drew W10).trans hxS).kp; refine ⟨⟨hxS, hLS⟩, ?_⟩; clear hsb hxS; (refine rd ?_); refine GM.nil ?_; have hsbx := hLS.bx; unfold rlC at hsbx; refine zSf tb (fun W12 hbZ hwZ => ?_); have hL12 : Ln W12 xb s (k3 + bls (s.drop k3)) bd3 _ _ _ _ := ⟨hbZ, by have := bls_le (s.drop k3); rw [List.length_drop] at this; have := hLS.hi; omega, hLS.hs, hLS.hw⟩; have hk12 := hkS.trans hwZ.kp; clear hLS hkS hsbx hbZ hwZ
  have hN12 := hN10.kp hk12 hxl
  have hk12 := hk10.trans hk12
  have hsk2 := skipB_drop s k3
  generalize k3 + bls (s.drop k3) = k4 at hL12 hsk2
  clear hL10 hN10 hk10
  cases bd3
  rotate_left
  · have hFn := hb3 rfl
    refine rn ?_
    refine sCall c127 (valueB_ok W12 xb s k4 wh3 wy3 nv vv hL12) ?_
    rintro _ W13 ⟨rfl, hx13⟩
    have hL13 := hL12.to hx13
    have hbx13 := hL13.bx
    unfold rlC at hbx13
    refine rn ?_
    exact G.ret0 rfl rfl rfl ⟨hk12.trans hx13.kp, .inr ⟨hnone hFn, _, _, _, _, _, hL13⟩⟩
  obtain ⟨rfl, rfl, rfl, hmu⟩ := hg3 rfl
  clear hg3 hb3
  refine rn ?_
  refine sCall c127 (value_ok W12 xb s k4 wh3 wy3 nv vv hL12 hnl) ?_
  rintro _ W13 ⟨hk13, ⟨u, k5, hq5, rfl, hL13⟩ | ⟨hq5, u, k5, wh', wy', rfl, hL13⟩⟩
  rotate_left
  · have hl : labP (s.drop k0) = none := by unfold labP; rw [hnm]; simp only; rw [hsk1, hmu]; simp only; rw [hsk2, hq5]
    rw [hl] at hF
    have hbx13 := hL13.bx
    unfold rlC at hbx13
    refine rn ?_
    exact G.ret0 rfl rfl rfl ⟨hk12.trans hk13, .inr ⟨hnone hF, _, _, _, _, _, hL13⟩⟩
  have hl : labP (s.drop k0) = some ((n, u), s.drop k5) := by unfold labP; rw [hnm]; simp only; rw [hsk1, hmu]; simp only; rw [hsk2, hq5]
  rw [hl] at hF
  simp only at hF
  have hll := labP_len hl
  simp only [List.length_drop] at hll
  have hN13 := hN12.kp hk13 hxl
  have hk13 := hk12.trans hk13
  have hbx13 := hL13.bx
  unfold rlC at hbx13
  clear hL12 hN12 hk12 hq5 hmu hsk1 hsk2 hnm
  refine rn ?_
  refine (G.loop (fun x : Nat × Bool => [(0, none, ptr xb), (2, none, .int .i64 k0), (3, none, S n), (4, none, S u), (5, none, .int .i64 x.1)]) (fun x W => Kp xb w W ∧ x.1 ≤ acc.length ∧ ∃ wh1 wy1, Ln W xb s k5 x.2 wh1 wy1 nv vv ∧ NV W w.heap.size nv vv acc ∧ x.2 = decide (n ∈ (acc.map (·.1)).take x.1) ∧ (x.2 = false → wh1 = wh3 ∧ wy1 = wy3)) (fun x => acc.length - x.1) (0, false) (by repeat (first | exact Sub.nil _ | refine Sub.cons rfl ?_)) ⟨hk13, Nat.zero_le _, wh3, wy3, hL13, hN13, by simp, fun _ => ⟨rfl, rfl⟩⟩ ?_)
  clear hL13 hN13 hk13 hbx13
  rintro ⟨j, bd6⟩ W14 ⟨hk14, hja, wh6, wy6, hL14, hN14, hbd, hg6⟩
  simp only at hja hL14 hbd hg6 ⊢
  have hbx14 := hL14.bx
  unfold rlC at hbx14
  have hns := hN14.n.sli
  have hnl2 : ((acc.map (·.1)).map strC).length = acc.length := by simp
  refine rn ?_
  first | refine G.condD rfl (fun hc => ?_) (fun hc => ?_) | refine G.condN rfl (fun hc => ?_) (fun hc => ?_) | refine G.cond rfl (fun hc => ?_) (fun hc => ?_)
  · have hlt : j < acc.length := by omega
    obtain ⟨m, hm⟩ : ∃ m, (acc.map (·.1))[j]? = some m := ⟨_, List.getElem?_eq_getElem (by rw [List.length_map]; exact hlt)⟩
    have hget : ((acc.map (·.1)).map strC)[j]? = some [S m] := by rw [List.getElem?_map, hm]; rfl
    have htk : (acc.map (·.1)).take (j + 1) = (acc.map (·.1)).take j ++ [m] := by rw [List.take_add_one, hm]; rfl
    refine rn ?_
    refine sIa tb j ?_ (hs := fun _ => ⟨_, hns⟩) (hj := fun _ => ⟨rfl, by rw [hnl2]; exact hlt⟩)
    refine rn ?_
    first | refine G.condD rfl (fun hc => ?_) (fun hc => ?_) | refine G.condN rfl (fun hc => ?_) (fun hc => ?_) | refine G.cond rfl (fun hc => ?_) (fun hc => ?_)
    · have hmn : m = n := by simpa using hc
      refine rn ?_
      refine sCall c125 (no_ok W14 xb s k5 bd6 wh6 wy6 nv vv k0 13 hL14 (by decide)) ?_
      rintro _ W15 ⟨wh', wy', hL15, hk15⟩
      refine rn ?_
      refine sAd tb ?_
      refine rn ?_
      exact G.lp (x := (j, bd6)) (j + 1, true) (by repeat (first | exact Sub.nil _ | refine Sub.cons rfl ?_)) ⟨hk14.trans hk15, hlt, wh', wy', hL15, hN14.kp hk15 hxl, by rw [htk, hmn]; simp, (by intro h; cases h)⟩ (by show acc.length - (j + 1) < acc.length - j; omega)
    · have hmn : ¬ m = n := by intro h; apply hc; simpa using h
      refine rn ?_
      refine sAd tb ?_
      refine rn ?_
      refine G.lp (x := (j, bd6)) (j + 1, bd6) (by repeat (first | exact Sub.nil _ | refine Sub.cons rfl ?_)) ⟨hk14, hlt, wh6, wy6, hL14, hN14, ?_, hg6⟩ (by show acc.length - (j + 1) < acc.length - j; omega)
      rw [htk, hbd]
      rw [Bool.eq_iff_iff]
      simp only [decide_eq_true_eq, List.mem_append, List.mem_singleton]
      constructor
      · exact .inl
      · rintro (h | h)
        · exact h
        · exact absurd h.symm hmn
  · have hje : j = acc.length := by omega
    rw [hje, List.take_of_length_le (by rw [List.length_map]; exact Nat.le_refl _)] at hbd
    clear hc hja hje hns
    refine rn ?_
    refine sBs' tb [strC n] (fun us W15 ho15 hs15 hx15 => ?_) (hkl := by simp [strC])
    have hL15 := hL14.to hx15
    have hN15 := hN14.to hx15
    have hk15 := hk14.trans hx15.kp
    have hB15 := hk15.size
    refine sApp2 tb hN15.n ho15.sli (fun nv' W16 hv16 hg16 ho16 => ?_) (h1 := str1 n)
    have hbl16 := hg16.bl
    have hL16 := hL15.below hbl16 hxl
    have hk16 := kp_below hk15 hbl16
    have hv16 : StrO W16 w.heap.size nv' ((acc ++ [(n, u)]).map (·.1)) := by unfold StrO; rw [List.map_append, List.map_append]; exact hv16
    have hw16 : StrO W16 w.heap.size vv (acc.map (·.2)) := hN15.v.grew hg16 (fun b hb e => hN15.ne b e.symm hb.symm)
    have hne16 : ∀ g, nv'.ownBlock = some g → vv.ownBlock ≠ some g := by
      intro g hg hgv
      rcases ho16 with h | h
      · exact hN15.ne g (h ▸ hg) hgv
      · have := (hN15.v.lt g hgv).2
        rw [h] at hg
        have := Option.some.inj hg
        omega
    clear hN15 hN14 hL15 hL14 hbx14 hk14 hk15 hs15 ho15 hg16 hbl16 ho16
    have hbx16 := hL16.bx
    unfold rlC at hbx16
    refine rn ?_
    refine sSf tb (fun W17 hb17 hw17 => ?_)
    have hL17 : Ln W17 xb s k5 bd6 wh6 wy6 nv' vv := ⟨hb17, hL16.hi, hs, hL16.hw⟩
    have hv17 := hv16.kp hw17.kp hxl
    have hu17 := hw16.kp hw17.kp hxl
    have hk17 := hk16.trans hw17.kp
    clear hL16 hv16 hw16 hk16 hb17 hw17 hbx16
    have hbx17 := hL17.bx
    unfold rlC at hbx17
    refine rn ?_
    refine sBs' tb [strC u] (fun us2 W18 ho18 hs18 hx18 => ?_) (hkl := by simp [strC])
    have hL18 := hL17.to hx18
    have hv18 := hv17.to hx18
    have hu18 := hu17.to hx18
    have hk18 := hk17.trans hx18.kp
    have hB18 := hk18.size
    refine sApp2 tb hu18 ho18.sli (fun vv' W19 hu19 hg19 ho19 => ?_) (h1 := str1 u)
    have hbl19 := hg19.bl
    have hL19 := hL18.below hbl19 hxl
    have hk19 := kp_below hk18 hbl19
    have hu19 : StrO W19 w.heap.size vv' ((acc ++ [(n, u)]).map (·.2)) := by unfold StrO; rw [List.map_append, List.map_append]; exact hu19
    have hv19 : StrO W19 w.heap.size nv' ((acc ++ [(n, u)]).map (·.1)) := hv18.grew hg19 (fun b hb e => hne16 b hb.symm e.symm)
    have hne19 : ∀ g, nv'.ownBlock = some g → vv'.ownBlock ≠ some g := by
      intro g hg hgv
      rcases ho19 with h | h
      · exact hne16 g hg (h ▸ hgv)
      · have := (hv18.lt g hg).2
        rw [h] at hgv
        have := Option.some.inj hgv
        omega
    clear hL17 hL18 hv17 hv18 hu17 hu18 hk17 hk18 hs18 ho18 hg19 hbl19 ho19 hne16 hbx17
    have hbx19 := hL19.bx
    unfold rlC at hbx19
    refine rn ?_
    refine sSf tb (fun W20 hb20 hw20 => ?_)
    have hL20 : Ln W20 xb s k5 bd6 wh6 wy6 nv' vv' := ⟨hb20, hL19.hi, hs, hL19.hw⟩
    have hN20 : NV W20 w.heap.size nv' vv' (acc ++ [(n, u)]) := ⟨hv19.kp hw20.kp hxl, hu19.kp hw20.kp hxl, hne19⟩
    have hk20 := hk19.trans hw20.kp
    clear hL19 hv19 hu19 hk19 hb20 hw20 hbx19 hne19
    refine rn ?_
    have hsb := (hL20).to (Ext.drew W20); refine G.regionZ 12 [(0, true), (1, true), (2, true), (3, true), (4, true), (5, true), (6, true), (7, true), (8, true), (9, false), (10, true), (11, true)] (fun w' => Ext (World.drew W20) w' ∧ Ln w' xb s k5 bd6 _ _ _ _) (by kernel_rfl) (by kernel_rfl) rfl mixed (⟨Ext.refl _, hsb⟩) rfl rfl ?_; (refine rd ?_); refine dLd tb (u := S s) ?_ (hc := fun w' hS _ => Bx.c0 hS.2.bx rfl); (refine rd ?_); refine dLd tb (u := .int .i64 (k5 : Nat)) ?_ (hc := fun w' hS _ => Bx.ci (i := 1) hS.2.bx (by exact rfl)); (refine rd ?_); refine GM.eff (Step.callX rfl rfl (by repeat (first | exact OpL.nil | refine OpL.cons (Op1.of rfl (by first | exact fun _ => rfl | exact fun h => h | exact fun h => bL h | exact fun h => bL (bL h) | exact fun h => bL (bL (bL h)))) ?_)) c29 rfl (fun hc => skip_ok s k5 _ hsb.hi hsb.hs) ?_); intro W21 hxS; have hLS := hsb.to hxS; have hkS : Kp xb W20 W21 := ((Ext.drew W20).trans hxS).kp; refine ⟨⟨hxS, hLS⟩, ?_⟩; clear hsb hxS; (refine rd ?_); refine GM.nil ?_; have hsbx := hLS.bx; unfold rlC at hsbx; refine zSf tb (fun W22 hbZ hwZ => ?_); have hL22 : Ln W22 xb s (k5 + bls (s.drop k5)) bd6 _ _ _ _ := ⟨hbZ, by have := bls_le (s.drop k5); rw [List.length_drop] at this; have := hLS.hi; omega, hLS.hs, hLS.hw⟩; have hk22 := hkS.trans hwZ.kp; clear hLS hkS hsbx hbZ hwZ
    have hN22 := hN20.kp hk22 hxl
    have hk22 := hk20.trans hk22
    have hsk6 := skipB_drop s k5
    rw [hsk6] at hF
    have hk56 : k5 ≤ k5 + bls (s.drop k5) := by omega
    generalize k5 + bls (s.drop k5) = k6 at hL22 hF hk56
    clear hL20 hN20 hk20
    have hbx22 := hL22.bx
    unfold rlC at hbx22
    have hk6l := hL22.hi
    refine rn ?_
    refine G.regionM [(0, true), (1, true), (2, true), (3, true), (4, true), (5, true), (6, true), (7, true), (8, true), (9, true), (10, true), (11, true), (12, true), (13, true), (14, true), (15, true), (16, true), (17, true), (18, true), (19, true), (20, true), (21, true)] (Ext W22) (by kernel_rfl) (by kernel_rfl) rfl mixed (Ext.drew W22) rfl ?_
    refine rd ?_
    refine dBs tb k6 ?_ (hj := fun hc => ⟨rfl, by have := of_decide_eq_true hc; omega⟩)
    refine rd ?_
    refine GM.nil ?_
    have hL23 := hL22.to (Ext.drew W22)
    have hN23 := hN22.to (Ext.drew W22)
    have hk23 := hk22.trans (Ext.drew W22).kp
    generalize W22.drew = W23 at hL23 hN23 hk23 ⊢
    clear hL22 hN22 hk22 hbx22
    have hbx23 := hL23.bx
    unfold rlC at hbx23
    have hll : (acc ++ [(n, u)]).length = acc.length + 1 := by simp
    refine G.cond rfl (fun hc => ?_) (fun hc => ?_)
    · have hh : (s.drop k6).head? = some 44 := by
        simp only [Bool.and_eq_true, decide_eq_true_eq] at hc
        rw [drop_at (by omega)]
        simp only [List.head?_cons, Option.some.injEq]
        rw [← UInt8.toNat_inj]
        show _ = 44
        omega
      rw [if_pos hh, List.drop_drop] at hF
      have hlt := head_lt hh
      refine rn ?_
      refine sAd tb ?_
      refine rn ?_
      refine sSf tb (fun W24 hb24 hw24 => ?_)
      refine rn ?_
      refine G.lp (x := (k, false)) (k6 + 1, bd6) (by repeat (first | exact Sub.nil _ | refine Sub.cons rfl ?_)) ⟨hk23.trans hw24.kp, wh6, wy6, nv', vv', acc ++ [(n, u)], ⟨hb24, hlt, hs, hL23.hw⟩, hN23.kp hw24.kp hxl, by simp only [hll]; omega, fun h => ?_, fun h => ?_⟩ (by show s.length - (k6 + 1) < s.length - k; omega)
      · obtain ⟨e1, e2⟩ := hg6 h
        rw [show bd6 = false from h] at hbd
        rw [if_neg (of_decide_eq_false hbd.symm)] at hF
        refine ⟨e1, e2, ?_⟩
        rw [hF]
        have := skipB_len (s.drop (k6 + 1))
        simp only [List.length_drop] at this
        exact labGo_fuel _ _ _ _ _ (Nat.le_refl _) (by simp only [List.length_drop]; omega) (by simp only [List.length_drop]; omega)
      · rw [show bd6 = true from h] at hbd
        rw [if_pos (of_decide_eq_true hbd.symm)] at hF
        exact hF
    have hh : ¬ (s.drop k6).head? = some 44 := by
      intro hh
      have hlt := head_lt hh
      rw [drop_at hlt] at hh
      have h5 : s.getD k6 0 = 44 := by simpa using hh
      rw [h5] at hc
      rw [decide_eq_true (show (k6 : Int) < s.length by omega)] at hc
      simp at hc
    rw [if_neg hh] at hF
    clear hc hh
    refine rn ?_
    cases bd6
    · obtain ⟨rfl, rfl⟩ := hg6 rfl
      rw [if_neg (of_decide_eq_false hbd.symm)] at hF
      refine sCall c126 (eat_ok W23 xb s k6 wh6 wy6 nv' vv' 125 hL23) ?_
      rintro _ W24 ⟨⟨hm, hL24⟩ | ⟨hm, wh', wy', hL24⟩, hk24⟩
      · refine rn ?_
        refine G.ret0 rfl rfl rfl ⟨hk23.trans hk24, .inl ⟨_, k6 + 1, nv', vv', ?_, hL24, hN23.kp hk24 hxl⟩⟩
        rw [hsome _ _ hF, hm]; rfl
      · refine rn ?_
        refine G.ret0 rfl rfl rfl ⟨hk23.trans hk24, .inr ⟨?_, _, _, _, _, _, hL24⟩⟩
        rw [hsome _ _ hF, hm]; rfl
    · rw [if_pos (of_decide_eq_true hbd.symm)] at hF
      refine sCall c126 (eatB_ok W23 xb s k6 wh6 wy6 nv' vv' 125 hL23) ?_
      rintro _ W24 hW
      obtain rfl : W23 = W24 := hW.symm
      refine rn ?_
      exact G.ret0 rfl rfl rfl ⟨hk23, .inr ⟨hnone hF, _, _, _, _, _, hL23⟩⟩
end Go.Proofs.YtcngoccnfmhhnaaGreatDoor
end
section
open Go Go.Vg Go.RowKit Go.Proofs Go.Proofs.YtcngoccnfmhhnaaGreatDoor
namespace Go.Proofs.YtcngoccnfmhhnaaGreatDoor
open Go.Nm

def i64C (x : Nat) : List Value := [.int .i64 x]
theorem i64_one (l : List Nat) : ∀ y ∈ l.map i64C, ∀ c ∈ y, c.oneCell' = true := by
  intro y hy c hc
  obtain ⟨n, _, rfl⟩ := List.mem_map.1 hy
  simp only [i64C, List.mem_cons, List.not_mem_nil, or_false] at hc
  subst hc; rfl
/-- a row of the reference's digits -/
structure Rt (w : World) (v : Value) (l : List Nat) : Prop where
  sl : Sli w v 1 (l.map i64C)
  nr : Nrm 10000 l
theorem Rt.to {w w' : World} {v : Value} {l : List Nat} (h : Rt w v l) (hx : Ext w w') : Rt w' v l := ⟨h.sl.to hx, h.nr⟩
theorem Rt.nil (w : World) : Rt w (.slice none 0 0) [] := ⟨Sli.nil _ _, Nrm.nil _⟩
theorem carry_bd {m : Nat} (hm : m ≤ 10000) : ∀ (l : List Nat) (c : Nat), (∀ x ∈ l, x < 10000) → c ≤ 2 ^ 60 → (mulR 10000 m l c).2 ≤ 2 ^ 60
  | [], c, _, hc => hc
  | x :: l, c, h, hc => by
    rw [mulR]
    refine carry_bd hm l _ (fun y hy => h y (List.mem_cons_of_mem _ hy)) ?_
    have h1 := h x (List.mem_cons_self ..)
    have : x * m ≤ 10000 * 10000 := Nat.mul_le_mul (by omega) hm
    omega
theorem dig4_step {f c : Nat} (h : c < 10000 ^ f) (h0 : 0 < c) : ∃ g, f = g + 1 ∧ dig4 f c = c % 10000 :: dig4 g (c / 10000) ∧ c / 10000 < 10000 ^ g := by
  cases f with
  | zero => simp at h; omega
  | succ g =>
    refine ⟨g, rfl, ?_, ?_⟩
    · rw [dig4, if_neg (by omega)]
    · apply Nat.div_lt_of_lt_mul
      rw [Nat.pow_succ, Nat.mul_comm] at h
      exact h
theorem dig4_zero (f : Nat) : dig4 f 0 = [] := by
  cases f with
  | zero => rfl
  | succ f => rw [dig4, if_pos rfl]
set_option maxHeartbeats 2000000 in
theorem timesR_ok (v : Value) (l : List Nat) (k c : Nat) (w : World) (hv : Rt w v l) (hl : l.length ≤ 1000000) (hk : k ≤ 10000) (hk0 : 0 < k) (hc : c ≤ 2 ^ 60) :
    Ret Tryz.prog 107 ⟨[v, .int .i64 k, .int .i64 c]⟩ w fun r w' => (Owns w' w.heap.size r 3 1 ((timesR k c l).map i64C) ∧ Nrm 10000 (timesR k c l)) ∧ Ext w w' := by
  have hvs := hv.sl
  have hll : (l.map i64C).length = l.length := List.length_map ..
  have hcb := fun i => carry_bd hk (l.take i) c (fun x hx => hv.nr.lt x (List.mem_of_mem_take hx)) hc
  refine ret_of_G Tryz.func107 rfl Tryz.ntmps107 rfl ?_
  simp only [argEnv]
  refine rn ?_
  refine (G.loop (fun x : Nat × Value => [(0, none, v), (1, none, .int .i64 k), (7, none, x.2), (8, none, .int .i64 ((mulR 10000 k (l.take x.1) c).2 : Nat)), (9, none, .int .i64 x.1)])
    (fun x W => Ext w W ∧ Owns W w.heap.size x.2 3 1 ((mulR 10000 k (l.take x.1) c).1.map i64C) ∧ x.1 ≤ l.length) (fun x => l.length - x.1) (0, .slice none 0 0) (by repeat (first | exact Sub.nil _ | refine Sub.cons rfl ?_)) ⟨Ext.refl _, Owns.nil _ _ _ _, Nat.zero_le _⟩ ?_)
  rintro ⟨i, ov⟩ W ⟨hx, ho, hi⟩
  simp only at ho hi
  have hvW := hvs.to hx
  have hci := hcb i
  have hrl := mulR_len 10000 k (l.take i) c
  rw [List.length_take, Nat.min_eq_left hi] at hrl
  show G _ _ [(0, none, v), (1, none, .int .i64 k), (7, none, ov), (8, none, .int .i64 ((mulR 10000 k (l.take i) c).2 : Nat)), (9, none, .int .i64 i)] _
  refine rn ?_
  rw [hll]
  refine rn ?_
  first | refine G.condD rfl (fun hc => ?_) (fun hc => ?_) | refine G.condN rfl (fun hc => ?_) (fun hc => ?_) | refine G.cond rfl (fun hc => ?_) (fun hc => ?_)
  · have hlt : i < l.length := by omega
    have hget : (l.map i64C)[i]? = some (i64C l[i]) := by rw [List.getElem?_map, List.getElem?_eq_getElem hlt]; rfl
    have hxl := hv.nr.lt l[i] (List.getElem_mem hlt)
    have hst := mulR_take 10000 k l c i hlt
    generalize l[i] = x at hget hxl hst
    generalize hR : (mulR 10000 k (l.take i) c) = R at *
    obtain ⟨row, cy⟩ := R
    simp only at hci hrl hst ho ⊢
    have hxm : x * k ≤ 10000 * 10000 := Nat.mul_le_mul (by omega) hk
    refine rn ?_
    refine sIa tb i ?_ (hj := fun _ => ⟨rfl, by rw [hll]; exact hlt⟩)
    refine rn ?_
    refine sAd tb (r := ((x * k : Nat) : Int)) ?_ (hp := (wrap_i64 (n := ((x : Nat) : Int) * ((k : Nat) : Int)) (by rw [← Int.natCast_mul]; omega) (by rw [← Int.natCast_mul]; omega)).trans (Int.natCast_mul ..).symm)
    refine rn ?_
    refine sAd tb (r := ((x * k + cy : Nat) : Int)) ?_ (hp := (wrap_i64 (n := ((x * k : Nat) : Int) + ((cy : Nat) : Int)) (by omega) (by omega)).trans (by omega))
    refine rn ?_
    have hyb : x * k + cy ≤ 2 ^ 61 := by omega
    generalize x * k + cy = y at *
    have hrem : ((y : Nat) : Int).tmod 10000 = ((y % 10000 : Nat) : Int) := (Int.tmod_eq_emod_of_nonneg (by omega)).trans (by omega)
    refine sRem hrem ?_
    refine sBs' tb ([y % 10000].map i64C) (fun us W2 ho2 hs2 hx2 => ?_) (hkl := by simp [i64C])
    have hx2s := hx2.size
    have hxs := hx.size
    refine sApp tb (ho.to hx2) ho2.sli (fun u3 W3 ho3 hg3 => ?_) (h1 := i64_one [_]) (hb := by simp only [List.length_map, List.length_cons, List.length_nil, hrl]; omega) (hl := by simp only [List.length_map, List.length_cons, List.length_nil, hrl]; omega)
    have hx3 : Ext w W3 := hg3.below w (hx.trans hx2)
    refine rn ?_
    have hquo : IntKind.i64.wrap (((y : Nat) : Int).tdiv 10000) = ((y / 10000 : Nat) : Int) := by
      rw [Int.tdiv_eq_ediv_of_nonneg (by omega)]
      exact (wrap_i64 (n := ((y : Nat) : Int) / 10000) (by omega) (by omega)).trans (by omega)
    refine sQuo hquo ?_
    refine rn ?_
    refine sAd tb (r := ((i + 1 : Nat) : Int)) ?_
    refine rn ?_
    refine G.lp (x := (i, ov)) (i + 1, u3) ?_ ⟨hx3, ?_, by simp only; omega⟩ (by simp only; omega)
    · simp only [hst]; exact (by repeat (first | exact Sub.nil _ | refine Sub.cons rfl ?_))
    · simp only [hst]
      rw [← List.map_append] at ho3
      exact ho3
  · have hie : i = l.length := by omega
    rw [hie, List.take_length] at ho hci hrl
    rw [hie, List.take_length]
    have hval : timesR k c l = (mulR 10000 k l c).1 ++ dig4 20 (mulR 10000 k l c).2 := rfl
    have h20 : (mulR 10000 k l c).2 < 10000 ^ 20 := Nat.lt_of_le_of_lt hci (by decide)
    have hnr := timesR_nrm (k := k) (more := c) hk0 hv.nr h20
    generalize hR : (mulR 10000 k l c) = R at *
    obtain ⟨row, cy⟩ := R
    simp only at hci hrl hval ho h20 ⊢
    refine rn ?_
    refine (G.loop (fun x : Nat × Nat × List Nat × Value => [(7, none, x.2.2.2), (8, none, .int .i64 (x.2.1 : Nat))])
      (fun x W => Ext w W ∧ Owns W w.heap.size x.2.2.2 3 1 ((row ++ x.2.2.1).map i64C) ∧ x.2.1 < 10000 ^ x.1 ∧ x.2.1 ≤ 2 ^ 60 ∧ x.2.2.1 ++ dig4 x.1 x.2.1 = dig4 20 cy ∧ x.2.2.1.length + x.1 ≤ 20) (fun x => x.1) (20, cy, [], ov) (by repeat (first | exact Sub.nil _ | refine Sub.cons rfl ?_)) ⟨hx, by simpa using ho, h20, hci, rfl, Nat.le_refl _⟩ ?_)
    clear hx ho hvW
    rintro ⟨f, cy2, pre, ov⟩ W ⟨hx, ho, hcf, hc60, hd, hpl⟩
    simp only at ho hcf hc60 hd hpl
    show G _ _ [(7, none, ov), (8, none, .int .i64 (cy2 : Nat))] _
    refine rn ?_
    first | refine G.condD rfl (fun hc => ?_) (fun hc => ?_) | refine G.condN rfl (fun hc => ?_) (fun hc => ?_) | refine G.cond rfl (fun hc => ?_) (fun hc => ?_)
    · obtain ⟨g, rfl, hds, hcg⟩ := dig4_step hcf (by omega)
      rw [hds] at hd
      have hrem : ((cy2 : Nat) : Int).tmod 10000 = ((cy2 % 10000 : Nat) : Int) := (Int.tmod_eq_emod_of_nonneg (by omega)).trans (by omega)
      have hquo : IntKind.i64.wrap (((cy2 : Nat) : Int).tdiv 10000) = ((cy2 / 10000 : Nat) : Int) := by
        rw [Int.tdiv_eq_ediv_of_nonneg (by omega)]
        exact (wrap_i64 (n := ((cy2 : Nat) : Int) / 10000) (by omega) (by omega)).trans (by omega)
      refine rn ?_
      refine sRem hrem ?_
      refine sBs' tb ([cy2 % 10000].map i64C) (fun us W2 ho2 hs2 hx2 => ?_) (hkl := by simp [i64C])
      have hx2s := hx2.size
      have hxs := hx.size
      refine sApp tb (ho.to hx2) ho2.sli (fun u3 W3 ho3 hg3 => ?_) (h1 := i64_one [_]) (hb := by simp only [List.length_map, List.length_append, List.length_cons, List.length_nil, hrl]; omega) (hl := by simp only [List.length_map, List.length_append, List.length_cons, List.length_nil, hrl]; omega)
      have hx3 : Ext w W3 := hg3.below w (hx.trans hx2)
      refine rn ?_
      refine sQuo hquo ?_
      refine rn ?_
      refine G.lp (x := (g + 1, cy2, pre, ov)) (g, cy2 / 10000, pre ++ [cy2 % 10000], u3) (by repeat (first | exact Sub.nil _ | refine Sub.cons rfl ?_)) ⟨hx3, ?_, hcg, by simp only; omega, by simp only; rw [List.append_assoc]; exact hd, by simp only [List.length_append, List.length_singleton]; omega⟩ (by simp only; omega)
      rw [← List.map_append, List.append_assoc] at ho3
      exact ho3
    · have h0 : cy2 = 0 := by omega
      rw [h0, dig4_zero, List.append_nil] at hd
      refine rn ?_
      refine G.ret1 rfl rfl rfl rfl ?_
      refine ⟨⟨?_, hnr⟩, hx⟩
      rw [hval, ← hd]
      exact ho
end Go.Proofs.YtcngoccnfmhhnaaGreatDoor
end
section
open Go Go.Vg Go.RowKit Go.Proofs Go.Proofs.YtcngoccnfmhhnaaGreatDoor
namespace Go.Proofs.YtcngoccnfmhhnaaGreatDoor
open Go.Nm

theorem dig4_len : ∀ f n, (dig4 f n).length ≤ f
  | 0, _ => Nat.le_refl _
  | f + 1, n => by
    rw [dig4]
    split
    · exact Nat.zero_le _
    · have := dig4_len f (n / 10000)
      simp only [List.length_cons]; omega
theorem timesR_len (k c : Nat) (l : List Nat) : (timesR k c l).length ≤ l.length + 20 := by
  unfold timesR
  have := dig4_len 20 (mulR 10000 k l c).2
  rw [List.length_append, mulR_len]
  omega
/-- times, told by numbers -/
theorem timesO_ok (v : Value) (l : List Nat) (k c : Nat) (w : World) (hv : Rt w v l) (hl : l.length ≤ 1000000) (hk : k ≤ 10000) (hk0 : 0 < k) (hc : c ≤ 2 ^ 60) :
    Ret Tryz.prog 107 ⟨[v, .int .i64 k, .int .i64 c]⟩ w fun r w' => (∃ m, Owns w' w.heap.size r 3 1 (m.map i64C) ∧ Nrm 10000 m ∧ vL 10000 m = vL 10000 l * k + c ∧ m.length ≤ l.length + 20) ∧ Ext w w' := by
  refine (timesR_ok v l k c w hv hl hk hk0 hc).mono ?_
  rintro r w' ⟨⟨hr, hn⟩, hx⟩
  refine ⟨⟨_, hr, hn, ?_, timesR_len k c l⟩, hx⟩
  refine timesR_val (Nat.lt_of_le_of_lt (carry_bd hk l c hv.nr.lt hc) (by decide))
theorem timesN_ok (v : Value) (l : List Nat) (k c : Nat) (w : World) (hv : Rt w v l) (hl : l.length ≤ 1000000) (hk : k ≤ 10000) (hk0 : 0 < k) (hc : c ≤ 2 ^ 60) :
    Ret Tryz.prog 107 ⟨[v, .int .i64 k, .int .i64 c]⟩ w fun r w' => (∃ m, Rt w' r m ∧ vL 10000 m = vL 10000 l * k + c ∧ m.length ≤ l.length + 20) ∧ Ext w w' := by
  refine (timesO_ok v l k c w hv hl hk hk0 hc).mono ?_
  rintro r w' ⟨⟨m, h1, h2, h3, h4⟩, hx⟩
  exact ⟨⟨m, ⟨h1.sli, h2⟩, h3, h4⟩, hx⟩
theorem ofR_ok (n : Nat) (w : World) (hn : n ≤ 2 ^ 60) : Ret Tryz.prog 132 ⟨[.int .i64 n]⟩ w fun r w' => (∃ m, Rt w' r m ∧ vL 10000 m = n ∧ m.length ≤ 20) ∧ Ext w w' := by
  refine ret_of_G Tryz.func132 rfl Tryz.ntmps132 rfl ?_
  simp only [argEnv]
  refine rn ?_
  refine sCall c107 (timesN_ok (.slice none 0 0) [] 1 n w (Rt.nil w) (Nat.zero_le _) (by decide) (by decide) hn) ?_
  rintro r w' ⟨⟨m, hm, he, hl⟩, hx⟩
  refine rn ?_
  refine G.ret1 rfl rfl rfl rfl ?_
  exact ⟨⟨m, hm, by rw [he]; simp [vL], by simpa using hl⟩, hx⟩
set_option maxHeartbeats 2000000 in
theorem power_ok (v : Value) (l : List Nat) (k n : Nat) (w : World) (hv : Rt w v l) (hl : l.length ≤ 100000) (hk : k = 2 ∨ k = 10) (hn : n ≤ 10000) :
    Ret Tryz.prog 133 ⟨[v, .int .i64 k, .int .i64 n]⟩ w fun r w' => (∃ m, Rt w' r m ∧ vL 10000 m = vL 10000 l * k ^ n ∧ m.length ≤ l.length + 20 * n) ∧ Ext w w' := by
  refine ret_of_G Tryz.func133 rfl Tryz.ntmps133 rfl ?_
  simp only [argEnv]
  refine rn ?_
  refine (G.loop (fun x : Nat × Value × List Nat => [(0, none, x.2.1), (1, none, .int .i64 k), (2, none, .int .i64 x.1)])
    (fun x W => Ext w W ∧ Rt W x.2.1 x.2.2 ∧ vL 10000 x.2.2 * k ^ x.1 = vL 10000 l * k ^ n ∧ x.2.2.length + 20 * x.1 ≤ l.length + 20 * n ∧ x.1 ≤ n) (fun x => x.1) (n, v, l) (by repeat (first | exact Sub.nil _ | refine Sub.cons rfl ?_)) ⟨Ext.refl _, hv, rfl, Nat.le_refl _, Nat.le_refl _⟩ ?_)
  rintro ⟨n2, v2, l2⟩ W ⟨hx, hv2, he, hlb, hn2⟩
  simp only at hv2 he hlb hn2
  show G _ _ [(0, none, v2), (1, none, .int .i64 k), (2, none, .int .i64 n2)] _
  refine rn ?_
  have hbe : (decide (((k : Nat) : Int) = 2) && decide ((13 : Int) ≤ ((n2 : Nat) : Int))) = decide (k = 2 ∧ 13 ≤ n2) := by
    rw [Bool.eq_iff_iff]
    simp only [Bool.and_eq_true, decide_eq_true_eq]
    omega
  rw [hbe]
  by_cases h2 : k = 2 ∧ 13 ≤ n2
  · rw [decide_eq_true h2]
    refine rn ?_
    refine sCall c107 (timesN_ok v2 l2 8192 0 W hv2 (by omega) (by decide) (by decide) (by decide)) ?_
    rintro v3 W3 ⟨⟨l3, hv3, he3, hl3⟩, hx3⟩
    refine rn ?_
    refine sAd tb (r := ((n2 - 13 : Nat) : Int)) ?_ (hp := (wrap_i64 (n := ((n2 : Nat) : Int) - 13) (by omega) (by omega)).trans (by omega))
    refine rn ?_
    refine G.lp (x := (n2, v2, l2)) (n2 - 13, v3, l3) (by repeat (first | exact Sub.nil _ | refine Sub.cons rfl ?_)) ⟨hx.trans hx3, hv3, ?_, by simp only; omega, by simp only; omega⟩ (by simp only; omega)
    simp only
    rw [he3, ← he, h2.1, Nat.add_zero, Nat.mul_assoc]
    congr 1
    rw [show 8192 = 2 ^ 13 from rfl, ← Nat.pow_add]
    congr 1
    omega
  rw [decide_eq_false h2]
  have hv2s := hv2.sl
  have hll : (l2.map i64C).length = l2.length := List.length_map ..
  refine rn ?_
  rw [hll]
  refine rn ?_
  have hbe2 : (decide (((k : Nat) : Int) = 10) && decide ((4 : Int) ≤ ((n2 : Nat) : Int)) && decide ((0 : Int) < ((l2.length : Nat) : Int))) = decide (k = 10 ∧ 4 ≤ n2 ∧ 0 < l2.length) := by
    rw [Bool.eq_iff_iff]
    simp only [Bool.and_eq_true, decide_eq_true_eq]
    omega
  rw [hbe2]
  refine G.join (fun x : Value × List Nat × Nat => [(0, none, x.1), (1, none, .int .i64 k), (2, none, .int .i64 x.2.2)]) (fun x W' => Ext w W' ∧ Rt W' x.1 x.2.1 ∧ vL 10000 x.2.1 * k ^ x.2.2 = vL 10000 l * k ^ n ∧ x.2.1.length + 20 * x.2.2 ≤ l.length + 20 * n ∧ x.2.2 ≤ n) ?_ ?_
  rotate_left
  · by_cases h4 : k = 10 ∧ 4 ≤ n2 ∧ 0 < l2.length
    · rw [decide_eq_true h4]
      obtain ⟨h10, h44, hpos⟩ := h4
      refine rn ?_
      have hquo : IntKind.i64.wrap (((n2 : Nat) : Int).tdiv 4) = ((n2 / 4 : Nat) : Int) := by
        rw [Int.tdiv_eq_ediv_of_nonneg (by omega)]
        exact (wrap_i64 (n := ((n2 : Nat) : Int) / 4) (by omega) (by omega)).trans (by omega)
      have hrem : ((n2 : Nat) : Int).tmod 4 = ((n2 % 4 : Nat) : Int) := (Int.tmod_eq_emod_of_nonneg (by omega)).trans (by omega)
      refine sQuo hquo ?_
      refine sMkS tb (z := .int .i64 0) (bytes := 8) (m := ((n2 / 4 : Nat) : Int)) (n2 / 4) (fun ov W1 ho1 hs1 hx1 _ => ?_)
      have ho1' : Owns W1 W.heap.size ov 3 1 ((List.replicate (n2 / 4) 0).map i64C) := by
        have : (List.replicate (n2 / 4) 0).map i64C = (List.replicate (n2 / 4) (Value.int .i64 0)).map fun u => [u] := by simp [i64C]
        rw [this]; exact ho1
      clear ho1
      have hxs := hx.size
      have hx1s := hx1.size
      refine rn ?_
      refine sApp tb ho1' (hv2s.to hx1) (fun u3 W3 ho3 hg3 => ?_) (h1 := i64_one _) (hb := by simp only [List.length_map, List.length_replicate]; omega) (hl := by simp only [List.length_map, List.length_replicate]; omega)
      have hx3 : Ext W W3 := hg3.below W hx1
      rw [← List.map_append] at ho3
      refine rn ?_
      refine sRem hrem ?_
      refine rn ?_
      refine G.met (u3, List.replicate (n2 / 4) 0 ++ l2, n2 % 4) (by repeat (first | exact Sub.nil _ | refine Sub.cons rfl ?_)) ⟨hx.trans hx3, ⟨ho3.sli, zeros_nrm (by decide) hv2.nr (List.length_pos_iff.1 hpos) _⟩, ?_, by simp only [List.length_append, List.length_replicate]; omega, by simp only; omega⟩
      simp only
      rw [zeros_val, ← he, h10, Nat.mul_comm (10000 ^ (n2 / 4)), Nat.mul_assoc]
      congr 1
      rw [show 10000 = 10 ^ 4 from rfl, ← Nat.pow_mul, ← Nat.pow_add]
      congr 1
      omega
    · rw [decide_eq_false h4]
      refine rn ?_
      exact G.met (v2, l2, n2) (by repeat (first | exact Sub.nil _ | refine Sub.cons rfl ?_)) ⟨hx, hv2, he, hlb, hn2⟩
  clear hx hv2 he hlb hn2 hbe hbe2 h2 hll hv2s
  rintro ⟨v3, l3, n3⟩ W3 ⟨hx, hv3, he, hlb, hn3⟩
  simp only at hv3 he hlb hn3
  show G _ _ [(0, none, v3), (1, none, .int .i64 k), (2, none, .int .i64 n3)] _
  refine rn ?_
  refine (G.loop (fun x : Nat × Value × List Nat => [(0, none, x.2.1), (1, none, .int .i64 k), (2, none, .int .i64 n3), (7, none, .int .i64 x.1)])
    (fun x W => Ext w W ∧ Rt W x.2.1 x.2.2 ∧ vL 10000 x.2.2 = vL 10000 l3 * k ^ x.1 ∧ x.2.2.length ≤ l3.length + 20 * x.1 ∧ x.1 ≤ n3) (fun x => n3 - x.1) (0, v3, l3) (by repeat (first | exact Sub.nil _ | refine Sub.cons rfl ?_)) ⟨hx, hv3, by simp, by simp, Nat.zero_le _⟩ ?_)
  clear hx hv3
  rintro ⟨i, v4, l4⟩ W ⟨hx, hv4, he4, hlb4, hi⟩
  simp only at hv4 he4 hlb4 hi
  show G _ _ [(0, none, v4), (1, none, .int .i64 k), (2, none, .int .i64 n3), (7, none, .int .i64 i)] _
  have hv4s := hv4.sl
  have hll : (l4.map i64C).length = l4.length := List.length_map ..
  refine rn ?_
  rw [hll]
  refine rn ?_
  have hbe : (decide (((i : Nat) : Int) < ((n3 : Nat) : Int)) && decide ((0 : Int) < ((l4.length : Nat) : Int))) = decide (i < n3 ∧ 0 < l4.length) := by
    rw [Bool.eq_iff_iff]
    simp only [Bool.and_eq_true, decide_eq_true_eq]
    omega
  rw [hbe]
  by_cases hlt : i < n3 ∧ 0 < l4.length
  · rw [decide_eq_true hlt]
    refine rn ?_
    refine sCall c107 (timesN_ok v4 l4 k 0 W hv4 (by omega) (by omega) (by omega) (by decide)) ?_
    rintro v5 W5 ⟨⟨l5, hv5, he5, hl5⟩, hx5⟩
    refine rn ?_
    refine sAd tb (r := ((i + 1 : Nat) : Int)) ?_
    refine rn ?_
    refine G.lp (x := (i, v4, l4)) (i + 1, v5, l5) (by repeat (first | exact Sub.nil _ | refine Sub.cons rfl ?_)) ⟨hx.trans hx5, hv5, ?_, by simp only; omega, by simp only; omega⟩ (by simp only; omega)
    simp only
    rw [he5, he4, Nat.add_zero, Nat.pow_succ, Nat.mul_assoc]
  · rw [decide_eq_false hlt]
    refine rn ?_
    refine G.ret1 rfl rfl rfl rfl ?_
    refine ⟨⟨l4, hv4, ?_, by omega⟩, hx⟩
    by_cases h0 : l4.length = 0
    · have h00 : l4 = [] := List.length_eq_zero_iff.1 h0
      rw [h00] at he4 ⊢
      have hk0 : 0 < k := by omega
      have : vL 10000 l3 = 0 := by
        have e := he4.symm
        simp only [vL] at e
        rcases Nat.mul_eq_zero.1 e with h | h
        · exact h
        · have := Nat.pow_pos hk0 (n := i); omega
      rw [← he, this]
      simp [vL]
    · rw [he4, ← he, show i = n3 by omega]
end Go.Proofs.YtcngoccnfmhhnaaGreatDoor
end
section
open Go Go.Vg Go.RowKit Go.Proofs Go.Proofs.YtcngoccnfmhhnaaGreatDoor
namespace Go.Proofs.YtcngoccnfmhhnaaGreatDoor
open Go.Nm

set_option maxHeartbeats 2000000 in
theorem cmpR_ok (v u : Value) (l m : List Nat) (w : World) (hv : Rt w v l) (hu : Rt w u m) (_ : l.length ≤ 1000000) (hm : m.length ≤ 1000000) :
    Ret Tryz.prog 134 ⟨[v, u]⟩ w fun r w' => r = .int .i64 (cmpV (vL 10000 l) (vL 10000 m)) ∧ Ext w w' := by
  have hvs := hv.sl
  have hus := hu.sl
  have hll : (l.map i64C).length = l.length := List.length_map ..
  have hml : (m.map i64C).length = m.length := List.length_map ..
  refine ret_of_G Tryz.func134 rfl Tryz.ntmps134 rfl ?_
  simp only [argEnv]
  refine rn ?_
  rw [hll, hml]
  by_cases hlm : l.length = m.length
  rotate_left
  · rw [decide_eq_false (p := ((l.length : Nat) : Int) = ((m.length : Nat) : Int)) (by omega)]
    refine rn ?_
    rw [hll, hml]
    refine rn ?_
    first | refine G.condD rfl (fun hc => ?_) (fun hc => ?_) | refine G.condN rfl (fun hc => ?_) (fun hc => ?_) | refine G.cond rfl (fun hc => ?_) (fun hc => ?_)
    · have hlt : vL 10000 l < vL 10000 m := hv.nr.len_lt (by decide) hu.nr (by omega)
      have hc1 : cmpV (vL 10000 l) (vL 10000 m) = -1 := by unfold cmpV; rw [if_pos hlt]
      rw [hc1]
      refine rn ?_
      refine G.ret1 rfl rfl rfl rfl ?_
      exact ⟨rfl, Ext.refl _⟩
    · have hlt : vL 10000 m < vL 10000 l := hu.nr.len_lt (by decide) hv.nr (by omega)
      have hc1 : cmpV (vL 10000 l) (vL 10000 m) = 1 := by unfold cmpV; rw [if_neg (by omega), if_pos hlt]
      rw [hc1]
      refine rn ?_
      refine G.ret1 rfl rfl rfl rfl ?_
      exact ⟨rfl, Ext.refl _⟩
  rw [decide_eq_true (p := ((l.length : Nat) : Int) = ((m.length : Nat) : Int)) (by omega)]
  refine rn ?_
  rw [hll]
  refine sAd tb (r := ((l.length : Nat) : Int) - 1) (hp := wrap_i64 (n := ((l.length : Nat) : Int) - 1) (by omega) (by omega)) ?_
  refine rn ?_
  refine (G.loop (fun k : Nat => [(0, none, v), (1, none, u), (5, none, .int .i64 ((k : Nat) - 1 : Int))]) (fun k W => Ext w W ∧ k ≤ l.length ∧ l.drop k = m.drop k) (fun k => k) l.length (by repeat (first | exact Sub.nil _ | refine Sub.cons rfl ?_)) ⟨Ext.refl _, Nat.le_refl _, by rw [List.drop_length, hlm, List.drop_length]⟩ ?_)
  rintro k W ⟨hx, hk, hd⟩
  have hvW := hvs.to hx
  have huW := hus.to hx
  refine rn ?_
  first | refine G.condD rfl (fun hc => ?_) (fun hc => ?_) | refine G.condN rfl (fun hc => ?_) (fun hc => ?_) | refine G.cond rfl (fun hc => ?_) (fun hc => ?_)
  · obtain ⟨j, rfl⟩ : ∃ j, k = j + 1 := ⟨k - 1, by omega⟩
    have hj1 : j < l.length := by omega
    have hj2 : j < m.length := by omega
    have hg1 : (l.map i64C)[j]? = some (i64C l[j]) := by rw [List.getElem?_map, List.getElem?_eq_getElem hj1]; rfl
    have hg2 : (m.map i64C)[j]? = some (i64C m[j]) := by rw [List.getElem?_map, List.getElem?_eq_getElem hj2]; rfl
    have hlt1 : l[j] < m[j] → vL 10000 l < vL 10000 m := cmp_at hv.nr.lt hu.nr.lt hj1 hj2 hd
    have hlt2 : m[j] < l[j] → vL 10000 m < vL 10000 l := cmp_at hu.nr.lt hv.nr.lt hj2 hj1 hd.symm
    have hdr : l[j] = m[j] → l.drop j = m.drop j := fun h => by rw [List.drop_eq_getElem_cons hj1, List.drop_eq_getElem_cons hj2, h, hd]
    generalize l[j] = x at *
    generalize m[j] = y at *
    rw [show ((j + 1 : Nat) : Int) - 1 = ((j : Nat) : Int) by omega]
    refine rn ?_
    refine G.regionM [(0, true), (1, true), (2, true), (3, true), (4, true), (5, true), (6, true), (7, true), (8, true)] (Ext W) (by kernel_rfl) (by kernel_rfl) rfl mixed (Ext.drew W) rfl ?_
    refine rd ?_
    refine dIa tb j ?_ (hj := fun _ => ⟨rfl, by rw [hll]; exact hj1⟩)
    refine rd ?_
    refine dIa tb j ?_ (hj := fun _ => ⟨rfl, by rw [hml]; exact hj2⟩)
    refine rd ?_
    refine GM.nil ?_
    have hx2 := hx.drew'
    by_cases hxy : x = y
    rotate_left
    · rw [decide_eq_false (p := ((x : Nat) : Int) = ((y : Nat) : Int)) (by omega)]
      refine rn ?_
      have hvW2 := hvs.to hx2
      have huW2 := hus.to hx2
      clear hvW huW
      refine G.regionM [(0, true), (1, true), (2, true), (3, true), (4, true), (5, true), (6, true), (7, true), (8, true)] (Ext W.drew) (by kernel_rfl) (by kernel_rfl) rfl mixed (Ext.drew W.drew) rfl ?_
      refine rd ?_
      refine dIa tb j ?_ (hj := fun _ => ⟨rfl, by rw [hll]; exact hj1⟩)
      refine rd ?_
      refine dIa tb j ?_ (hj := fun _ => ⟨rfl, by rw [hml]; exact hj2⟩)
      refine rd ?_
      refine GM.nil ?_
      have hx3 := hx2.drew'
      first | refine G.condD rfl (fun hc => ?_) (fun hc => ?_) | refine G.condN rfl (fun hc => ?_) (fun hc => ?_) | refine G.cond rfl (fun hc => ?_) (fun hc => ?_)
      · have hlt := hlt1 (by omega)
        have hc1 : cmpV (vL 10000 l) (vL 10000 m) = -1 := by unfold cmpV; rw [if_pos hlt]
        rw [hc1]
        refine rn ?_
        refine G.ret1 rfl rfl rfl rfl ?_
        exact ⟨rfl, hx3⟩
      · have hlt := hlt2 (by omega)
        have hc1 : cmpV (vL 10000 l) (vL 10000 m) = 1 := by unfold cmpV; rw [if_neg (by omega), if_pos hlt]
        rw [hc1]
        refine rn ?_
        refine G.ret1 rfl rfl rfl rfl ?_
        exact ⟨rfl, hx3⟩
    rw [decide_eq_true (p := ((x : Nat) : Int) = ((y : Nat) : Int)) (by omega)]
    refine rn ?_
    refine sAd tb (r := ((j : Nat) : Int) - 1) (hp := wrap_i64 (n := ((j : Nat) : Int) - 1) (by omega) (by omega)) ?_
    refine rn ?_
    exact G.lp (x := j + 1) j (by repeat (first | exact Sub.nil _ | refine Sub.cons rfl ?_)) ⟨hx2, by omega, hdr hxy⟩ (by omega)
  · have hk0 : k = 0 := by omega
    subst hk0
    rw [List.drop_zero, List.drop_zero] at hd
    subst hd
    have hc1 : cmpV (vL 10000 l) (vL 10000 l) = 0 := cmpV_eq.2 rfl
    rw [hc1]
    refine rn ?_
    refine G.ret1 rfl rfl rfl rfl ?_
    exact ⟨rfl, hx⟩
set_option maxHeartbeats 2000000 in
theorem parts_ok (b : Nat) (w : World) (hb : b < 2 ^ 63) : Ret Tryz.prog 130 ⟨[.int .u64 b]⟩ w fun r w' => r = .tuple ⟨[.int .i64 (mB b : Nat), .int .i64 ((kB b : Int) - 1074)]⟩ ∧ Ext w w' := by
  have hmk := mB_mask b
  have hand := and_low64 b 52 (by omega) (by decide)
  have hand2 := and_low64 (b / 2 ^ 52) 11 (by omega) (by decide)
  rw [show ((2 ^ 52 - 1 : Nat) : Int) = 4503599627370495 by decide] at hand
  rw [show ((2 ^ 11 - 1 : Nat) : Int) = 2047 by decide] at hand2
  have hk : kB b = b / 2 ^ 52 - 1 := rfl
  refine ret_of_G Tryz.func130 rfl Tryz.ntmps130 rfl ?_
  simp only [argEnv]
  refine rn ?_
  rw [hand]
  refine sCv tb (r := ((b % 2 ^ 52 : Nat) : Int)) ?_
  refine rn ?_
  refine sShr (n := 52) (shr_nat b 52) ?_
  refine rn ?_
  rw [hand2]
  refine sCv tb (r := ((b / 2 ^ 52 : Nat) : Int)) ?_ (hr := (wrap_i64 (n := ((b / 2 ^ 52 % 2 ^ 11 : Nat) : Int)) (by omega) (by omega)).trans (by omega))
  refine rn ?_
  by_cases h0 : b / 2 ^ 52 = 0
  · rw [if_pos h0] at hmk
    rw [decide_eq_true (p := ((b / 2 ^ 52 : Nat) : Int) = 0) (by omega)]
    refine rn ?_
    refine G.ret2 rfl rfl rfl rfl rfl ?_
    exact ⟨by rw [hmk, hk, h0]; rfl, Ext.refl _⟩
  · rw [if_neg h0] at hmk
    rw [decide_eq_false (p := ((b / 2 ^ 52 : Nat) : Int) = 0) (by omega)]
    refine rn ?_
    refine sAd tb (r := ((mB b : Nat) : Int)) ?_ (hp := (wrap_i64 (n := ((b % 2 ^ 52 : Nat) : Int) + 4503599627370496) (by omega) (by omega)).trans (by omega))
    refine rn ?_
    refine sAd tb (r := (kB b : Int) - 1074) ?_ (hp := (wrap_i64 (n := ((b / 2 ^ 52 : Nat) : Int) - 1075) (by omega) (by omega)).trans (by omega))
    refine rn ?_
    refine G.ret2 rfl rfl rfl rfl rfl ?_
    exact ⟨rfl, Ext.refl _⟩
set_option maxHeartbeats 2000000 in
theorem below_ok (m : Nat) (e : Int) (v : Value) (l : List Nat) (x : Int) (w : World) (hv : Rt w v l) (hl : l.length ≤ 10000) (hm : m ≤ 2 ^ 60) (he1 : -2000 ≤ e) (he2 : e ≤ 2000) (hx1 : -5000 ≤ x) (hx2 : x ≤ 5000) :
    Ret Tryz.prog 131 ⟨[.int .i64 m, .int .i64 e, .agg ⟨[v, .int .i64 x]⟩]⟩ w fun r w' => r = .int .i64 (belowP m e (vL 10000 l) x) ∧ Ext w w' := by
  have hvs := hv.sl
  refine ret_of_G Tryz.func131 rfl Tryz.ntmps131 rfl ?_
  simp only [argEnv]
  refine rn ?_
  refine sBox (us := [v, .int .i64 x]) (fun W1 hb1 hs1 hx1 => ?_) (hv := rfl)
  refine rn ?_
  refine G.regionM [(0, true), (2, true), (3, true), (1, false), (4, true), (5, true)] (Ext W1) (by kernel_rfl) (by kernel_rfl) rfl mixed (Ext.drew W1) rfl ?_
  refine rd ?_
  refine GM.eff (Step.callF rfl rfl rfl c132 rfl (ofR_ok m _ hm) (fun va W2 hq => ?_))
  obtain ⟨⟨la, hra, hea, hla⟩, hx2⟩ := hq
  refine ⟨(Ext.drew W1).trans hx2, ?_⟩
  refine rd ?_
  refine GM.nil ?_
  have hx12 := (Ext.drew W1).trans hx2
  have hx02 := hx1.trans hx12
  have hb2 := hb1.to hx12
  have hrb := hv.to hx02
  clear hb1 hx12 hx2 hvs hs1
  obtain ⟨b0, hb0⟩ : ∃ b, b = w.heap.size := ⟨_, rfl⟩
  refine rn ?_
  refine G.join (fun y : Value × List Nat × Value × List Nat => [(5, none, ptr w.heap.size), (7, none, y.1), (8, none, y.2.2.1)]) (fun y W' => Ext w W' ∧ Bx W' w.heap.size [v, .int .i64 x] ∧ Rt W' y.1 y.2.1 ∧ Rt W' y.2.2.1 y.2.2.2 ∧ vL 10000 y.2.1 = m * 2 ^ e.toNat ∧ vL 10000 y.2.2.2 = vL 10000 l * 2 ^ (-e).toNat ∧ y.2.1.length ≤ 50000 ∧ y.2.2.2.length ≤ 50000) ?_ ?_
  rotate_left
  · by_cases h0 : 0 < e
    · rw [decide_eq_true h0]
      obtain ⟨n, hn⟩ : ∃ n : Nat, (n : Int) = e := ⟨e.toNat, by omega⟩
      rw [← hn]
      refine rn ?_
      refine sCall c133 (power_ok va la 2 n W2 hra (by omega) (.inl rfl) (by omega)) ?_
      rintro v3 W3 ⟨⟨l3, h3, e3, k3⟩, hx3⟩
      refine rn ?_
      refine G.met (v3, l3, v, l) (by repeat (first | exact Sub.nil _ | refine Sub.cons rfl ?_)) ⟨hx02.trans hx3, hb2.to hx3, h3, hrb.to hx3, ?_, ?_, by simp only; omega, by simp only; omega⟩
      · simp only; rw [e3, hea]; rfl
      · simp only
        rw [show (-(n : Int)).toNat = 0 by omega, Nat.pow_zero, Nat.mul_one]
    · rw [decide_eq_false h0]
      obtain ⟨n, hn⟩ : ∃ n : Nat, (n : Int) = -e := ⟨(-e).toNat, by omega⟩
      have hne : e = -(n : Int) := by omega
      subst hne
      refine rn ?_
      refine sNeg ?_ (hr := wrap_i64 (by omega) (by omega))
      rw [show 0 - -(n : Int) = (n : Int) by omega]
      refine sCall c133 (power_ok v l 2 n W2 hrb (by omega) (.inl rfl) (by omega)) ?_
      rintro v3 W3 ⟨⟨l3, h3, e3, k3⟩, hx3⟩
      refine rn ?_
      refine G.met (va, la, v3, l3) (by repeat (first | exact Sub.nil _ | refine Sub.cons rfl ?_)) ⟨hx02.trans hx3, hb2.to hx3, hra.to hx3, h3, ?_, ?_, by simp only; omega, by simp only; omega⟩
      · simp only
        rw [hea, show (-(n : Int)).toNat = 0 by omega, Nat.pow_zero, Nat.mul_one]
      · simp only; rw [e3, show (- -(n : Int)).toNat = n by omega]
  clear hra hea hla hrb hb2 hx02 hx1
  rintro ⟨va, la, vb, lb⟩ W4 ⟨hx4, hb4, hra, hrb, hea, heb, hla, hlb⟩
  simp only at hra hrb hea heb hla hlb
  show G _ _ [(5, none, ptr w.heap.size), (7, none, va), (8, none, vb)] _
  refine rn ?_
  unfold belowP
  refine G.join (fun y : Value × List Nat × Value × List Nat => [(7, none, y.1), (8, none, y.2.2.1)]) (fun y W' => Ext w W' ∧ Rt W' y.1 y.2.1 ∧ Rt W' y.2.2.1 y.2.2.2 ∧ vL 10000 y.2.1 = m * 2 ^ e.toNat * 10 ^ (-x).toNat ∧ vL 10000 y.2.2.2 = vL 10000 l * 2 ^ (-e).toNat * 10 ^ x.toNat ∧ y.2.1.length ≤ 1000000 ∧ y.2.2.2.length ≤ 1000000) ?_ ?_
  rotate_left
  · by_cases h0 : 0 < x
    · rw [decide_eq_true h0]
      obtain ⟨n, hn⟩ : ∃ n : Nat, (n : Int) = x := ⟨x.toNat, by omega⟩
      subst hn
      refine rn ?_
      refine sCall c133 (power_ok vb lb 10 n W4 hrb (by omega) (.inr rfl) (by omega)) ?_
      rintro v3 W3 ⟨⟨l3, h3, e3, k3⟩, hx3⟩
      refine rn ?_
      refine G.met (va, la, v3, l3) (by repeat (first | exact Sub.nil _ | refine Sub.cons rfl ?_)) ⟨hx4.trans hx3, hra.to hx3, h3, ?_, ?_, by simp only; omega, by simp only; omega⟩
      · simp only
        rw [hea, show (-(n : Int)).toNat = 0 by omega, Nat.pow_zero, Nat.mul_one]
      · simp only; rw [e3, heb]; rfl
    · rw [decide_eq_false h0]
      obtain ⟨n, hn⟩ : ∃ n : Nat, (n : Int) = -x := ⟨(-x).toNat, by omega⟩
      have hne : x = -(n : Int) := by omega
      subst hne
      refine rn ?_
      refine sNeg ?_ (hr := wrap_i64 (by omega) (by omega))
      rw [show 0 - -(n : Int) = (n : Int) by omega]
      refine sCall c133 (power_ok va la 10 n W4 hra (by omega) (.inr rfl) (by omega)) ?_
      rintro v3 W3 ⟨⟨l3, h3, e3, k3⟩, hx3⟩
      refine rn ?_
      refine G.met (v3, l3, vb, lb) (by repeat (first | exact Sub.nil _ | refine Sub.cons rfl ?_)) ⟨hx4.trans hx3, h3, hrb.to hx3, ?_, ?_, by simp only; omega, by simp only; omega⟩
      · simp only; rw [e3, hea, show (- -(n : Int)).toNat = n by omega]
      · simp only
        rw [heb, show (-(n : Int)).toNat = 0 by omega, Nat.pow_zero, Nat.mul_one]
  clear hra hrb hea heb hla hlb hb4 hx4
  rintro ⟨va, la, vb, lb⟩ W5 ⟨hx5, hra, hrb, hea, heb, hla, hlb⟩
  simp only at hra hrb hea heb hla hlb
  show G _ _ [(7, none, va), (8, none, vb)] _
  refine rn ?_
  refine sCall c134 (cmpR_ok va vb la lb W5 hra hrb hla hlb) ?_
  rintro _ W6 ⟨rfl, hx6⟩
  refine rn ?_
  refine G.ret1 rfl rfl rfl rfl ?_
  exact ⟨by rw [hea, heb], hx5.trans hx6⟩
end Go.Proofs.YtcngoccnfmhhnaaGreatDoor
end
section
open Go Go.Vg Go.RowKit Go.Proofs Go.Proofs.YtcngoccnfmhhnaaGreatDoor
namespace Go.Proofs.YtcngoccnfmhhnaaGreatDoor
open Go.Nm

/-- what the search finds -/
structure NearR (D : Nat) (n : Nat) (x : Int) (b : Nat) : Prop where
  zero : D = 0 ∨ (n : Int) + x < -340 → b = 0
  inf : ¬ (D = 0 ∨ (n : Int) + x < -340) → 320 < (n : Int) + x → b = infB
  mid : ¬ (D = 0 ∨ (n : Int) + x < -340) → ¬ 320 < (n : Int) + x → ∃ lo, IsLo (D * 10 ^ x.toNat * 2 ^ cP) (10 ^ (-x).toNat) lo ∧ b = refR (D * 10 ^ x.toNat * 2 ^ cP) (10 ^ (-x).toNat) lo
theorem kB_bd {b : Nat} (h : b ≤ infB) : kB b ≤ 2046 := by
  have : infB = 2047 * 2 ^ 52 := rfl
  unfold kB; omega
set_option maxHeartbeats 4000000 in
theorem nearestR_ok (v : Value) (l : List Nat) (x : Int) (n : Nat) (w : World) (hv : Rt w v l) (hl : l.length ≤ 10000) (hn : n ≤ 1000) (hx1 : -100000000 ≤ x) (hx2 : x ≤ 100000000) :
    Ret Tryz.prog 156 ⟨[.agg ⟨[v, .int .i64 x]⟩, .int .i64 n]⟩ w fun r w' => (∃ b : Nat, r = .int .u64 b ∧ b ≤ infB ∧ NearR (vL 10000 l) n x b) ∧ Ext w w' := by
  have hvs := hv.sl
  have hll : (l.map i64C).length = l.length := List.length_map ..
  have hz : vL 10000 l = 0 ↔ l.length = 0 := (hv.nr.zero (by decide)).trans List.length_eq_zero_iff.symm
  have hinf : infB = 9218868437227405312 := by decide
  refine ret_of_G Tryz.func156 rfl Tryz.ntmps156 rfl ?_
  simp only [argEnv]
  refine rn ?_
  refine sBox (us := [v, .int .i64 x]) (fun W1 hb1 hs1 hx01 => ?_) (hv := rfl)
  have hvs := hvs.to hx01
  refine rn ?_
  rw [hll]
  refine rn ?_
  refine sAd tb (r := ((n : Nat) : Int) + x) ?_ (hp := wrap_i64 (n := ((n : Nat) : Int) + x) (by omega) (by omega))
  refine rn ?_
  have hbe : (decide (((l.length : Nat) : Int) = 0) || decide (((n : Nat) : Int) + x < -340)) = decide (vL 10000 l = 0 ∨ ((n : Nat) : Int) + x < -340) := by
    rw [Bool.eq_iff_iff]
    simp only [Bool.or_eq_true, decide_eq_true_eq, hz]
    omega
  rw [hbe]
  clear hbe hz
  have hd1 : vL 10000 l = vL 10000 l := rfl
  by_cases hc1 : vL 10000 l = 0 ∨ ((n : Nat) : Int) + x < -340
  · rw [decide_eq_true hc1]
    refine rn ?_
    refine G.ret1 rfl rfl rfl rfl ?_
    exact ⟨⟨0, rfl, Nat.zero_le _, fun _ => rfl, fun h => absurd hc1 h, fun h => absurd hc1 h⟩, hx01⟩
  rw [decide_eq_false hc1]
  refine rn ?_
  refine sAd tb (r := ((n : Nat) : Int) + x) ?_ (hp := wrap_i64 (n := ((n : Nat) : Int) + x) (by omega) (by omega))
  refine rn ?_
  by_cases hc2 : 320 < ((n : Nat) : Int) + x
  · rw [decide_eq_true hc2]
    refine rn ?_
    refine G.ret1 rfl rfl rfl rfl ?_
    exact ⟨⟨infB, by rw [hinf]; rfl, Nat.le_refl _, fun h => absurd h hc1, fun _ _ => rfl, fun _ h => absurd hc2 h⟩, hx01⟩
  rw [decide_eq_false hc2]
  have hlow : ¬ ((n : Nat) : Int) + x < -340 := fun h => hc1 (.inr h)
  obtain ⟨X, hX⟩ : ∃ X, X = vL 10000 l * 10 ^ x.toNat * 2 ^ cP := ⟨_, rfl⟩
  obtain ⟨B, hBe⟩ : ∃ B, B = 10 ^ (-x).toNat := ⟨_, rfl⟩
  have hbv : ∀ b, belowP (mB b) ((kB b : Int) - 1074) (vL 10000 l) x = cmpV (vB b * B) X := fun b => by rw [hX, hBe]; exact below_v b _ x
  have hbh : ∀ b, belowP (2 * mB b + 1) ((kB b : Int) - 1074 - 1) (vL 10000 l) x = cmpV (hB b * B) X := fun b => by rw [hX, hBe]; exact below_h b _ x
  refine rn ?_
  refine (G.loop (fun y : Nat × Nat => [(2, none, ptr w.heap.size), (5, none, .int .u64 (y.1 : Nat)), (6, none, .int .u64 (y.2 : Nat))])
    (fun y W => Ext w W ∧ Bx W w.heap.size [v, .int .i64 x] ∧ Srch X B y.1 y.2) (fun y => y.2 - y.1) (0, infB) (by repeat (first | exact Sub.nil _ | refine Sub.cons rfl ?_)) ⟨hx01, hb1, Srch.start⟩ ?_)
  clear hb1 hvs hs1 hx01
  rintro ⟨lo, hi⟩ W ⟨hx, hb, hS⟩
  simp only at hS
  show G _ _ [(2, none, ptr w.heap.size), (5, none, .int .u64 (lo : Nat)), (6, none, .int .u64 (hi : Nat))] _
  have hlt := hS.lt
  have hib := hS.hb
  have hrW := hv.to hx
  refine rn ?_
  refine GL.cons (Step.arith (k := .u64) (a := ((hi : Nat) : Int)) (b := ((lo : Nat) : Int)) (r := ((hi - lo : Nat) : Int)) rfl (Op1.of rfl (by first | exact fun _ => rfl | exact fun h => h | exact fun h => bL h | exact fun h => bL (bL h) | exact fun h => bL (bL (bL h)))) (Op1.of rfl (by first | exact fun _ => rfl | exact fun h => h | exact fun h => bL h | exact fun h => bL (bL h) | exact fun h => bL (bL (bL h)))) ((wrap_u64 (n := ((hi : Nat) : Int) - ((lo : Nat) : Int)) (by omega) (by omega)).trans (by omega)) rfl ?_)
  refine rn ?_
  first | refine G.condD rfl (fun hc => ?_) (fun hc => ?_) | refine G.condN rfl (fun hc => ?_) (fun hc => ?_) | refine G.cond rfl (fun hc => ?_) (fun hc => ?_)
  · obtain ⟨mid, hmid⟩ : ∃ mid, mid = lo + (hi - lo) / 2 := ⟨_, rfl⟩
    have hq : IntKind.u64.wrap (((hi - lo : Nat) : Int).tdiv 2) = (((hi - lo) / 2 : Nat) : Int) := by
      rw [Int.tdiv_eq_ediv_of_nonneg (by omega)]
      exact (wrap_u64 (n := ((hi - lo : Nat) : Int) / 2) (by omega) (by omega)).trans (by omega)
    have hkb := kB_bd (b := mid) (by omega)
    have hmb := (bits_of mid).2.1
    have hmr : ((kB mid : Nat) : Int) - 1074 ≤ 2000 := by omega
    refine rn ?_
    refine GL.cons (Step.arith (k := .u64) (a := ((hi : Nat) : Int)) (b := ((lo : Nat) : Int)) (r := ((hi - lo : Nat) : Int)) rfl (Op1.of rfl (by first | exact fun _ => rfl | exact fun h => h | exact fun h => bL h | exact fun h => bL (bL h) | exact fun h => bL (bL (bL h)))) (Op1.of rfl (by first | exact fun _ => rfl | exact fun h => h | exact fun h => bL h | exact fun h => bL (bL h) | exact fun h => bL (bL (bL h)))) ((wrap_u64 (n := ((hi : Nat) : Int) - ((lo : Nat) : Int)) (by omega) (by omega)).trans (by omega)) rfl ?_)
    refine sQuo hq ?_
    refine GL.cons (Step.arith (k := .u64) (a := ((lo : Nat) : Int)) (b := (((hi - lo) / 2 : Nat) : Int)) (r := ((mid : Nat) : Int)) rfl (Op1.of rfl (by first | exact fun _ => rfl | exact fun h => h | exact fun h => bL h | exact fun h => bL (bL h) | exact fun h => bL (bL (bL h)))) (Op1.of rfl (by first | exact fun _ => rfl | exact fun h => h | exact fun h => bL h | exact fun h => bL (bL h) | exact fun h => bL (bL (bL h)))) ((wrap_u64 (n := ((lo : Nat) : Int) + (((hi - lo) / 2 : Nat) : Int)) (by omega) (by omega)).trans (by omega)) rfl ?_)
    refine rn ?_
    refine sCall c130 (parts_ok mid W (by omega)) ?_
    rintro _ W2 ⟨rfl, hx2⟩
    have hb := hb.to hx2
    refine rn ?_
    refine sCall c131 (below_ok (mB mid) ((kB mid : Int) - 1074) v l x W2 (hrW.to hx2) hl (by omega) (by omega) (by omega) (by omega) (by omega)) ?_
    rintro _ W3 ⟨rfl, hx3⟩
    rw [hbv mid]
    have hb := hb.to hx3
    have hx4 := (hx.trans hx2).trans hx3
    refine rn ?_
    by_cases hle : vB mid * B ≤ X
    · rw [decide_eq_true (cmpV_le.2 hle)]
      refine rn ?_
      exact G.lp (x := (lo, hi)) (mid, hi) (by repeat (first | exact Sub.nil _ | refine Sub.cons rfl ?_)) ⟨hx4, hb, hS.low (by omega) hle⟩ (by simp only; omega)
    · rw [decide_eq_false (fun h => hle (cmpV_le.1 h))]
      refine rn ?_
      exact G.lp (x := (lo, hi)) (lo, mid) (by repeat (first | exact Sub.nil _ | refine Sub.cons rfl ?_)) ⟨hx4, hb, hS.high (by omega) (by omega) hle⟩ (by simp only; omega)
  · have hlo := hS.fin (by omega)
    have hkb := kB_bd (b := lo) (by omega)
    have hmb := (bits_of lo).2.1
    refine rn ?_
    refine sCall c130 (parts_ok lo W (by omega)) ?_
    rintro _ W2 ⟨rfl, hx2⟩
    have hb := hb.to hx2
    refine rn ?_
    refine sAd tb (r := ((2 * mB lo : Nat) : Int)) ?_ (hp := (wrap_i64 (n := 2 * ((mB lo : Nat) : Int)) (by omega) (by omega)).trans (by omega))
    refine sAd tb (r := ((2 * mB lo + 1 : Nat) : Int)) ?_
    refine rn ?_
    refine sAd tb (r := (kB lo : Int) - 1074 - 1) ?_ (hp := wrap_i64 (n := (kB lo : Int) - 1074 - 1) (by omega) (by omega))
    refine rn ?_
    refine sCall c131 (below_ok (2 * mB lo + 1) ((kB lo : Int) - 1074 - 1) v l x W2 (hrW.to hx2) hl (by omega) (by omega) (by omega) (by omega) (by omega)) ?_
    rintro _ W3 ⟨rfl, hx3⟩
    rw [hbh lo]
    have hx4 := (hx.trans hx2).trans hx3
    have hR : ∀ b, b = refR X B lo → NearR (vL 10000 l) n x b := fun b hb => ⟨fun h => absurd h hc1, fun _ h => absurd h hc2, fun _ _ => ⟨lo, by rw [← hX, ← hBe]; exact hlo, by rw [← hX, ← hBe]; exact hb⟩⟩
    have hloi := hlo.lt
    have hrm : ((lo : Nat) : Int).tmod 2 = ((lo % 2 : Nat) : Int) := (Int.tmod_eq_emod_of_nonneg (by omega)).trans (by omega)
    refine rn ?_
    refine sRem hrm ?_
    refine rn ?_
    have hbe : (decide (cmpV (hB lo * B) X < 0) || decide (cmpV (hB lo * B) X = 0) && decide (((lo % 2 : Nat) : Int) = 1)) = decide (hB lo * B < X ∨ (hB lo * B = X ∧ lo % 2 = 1)) := by
      rw [Bool.eq_iff_iff]
      simp only [Bool.or_eq_true, Bool.and_eq_true, decide_eq_true_eq, cmpV_lt, cmpV_eq]
      omega
    rw [hbe]
    by_cases hup : hB lo * B < X ∨ (hB lo * B = X ∧ lo % 2 = 1)
    · have e : refR X B lo = lo + 1 := by unfold refR; rw [if_pos hup]
      rw [decide_eq_true hup]
      refine rn ?_
      refine GL.cons (Step.arith (k := .u64) (a := ((lo : Nat) : Int)) (b := 1) (r := ((lo + 1 : Nat) : Int)) rfl (Op1.of rfl (by first | exact fun _ => rfl | exact fun h => h | exact fun h => bL h | exact fun h => bL (bL h) | exact fun h => bL (bL (bL h)))) (Op1.of rfl (by first | exact fun _ => rfl | exact fun h => h | exact fun h => bL h | exact fun h => bL (bL h) | exact fun h => bL (bL (bL h)))) ((wrap_u64 (n := ((lo : Nat) : Int) + 1) (by omega) (by omega)).trans (by omega)) rfl ?_)
      refine rn ?_
      refine G.ret1 rfl rfl rfl rfl ?_
      exact ⟨⟨lo + 1, rfl, by omega, hR _ e.symm⟩, hx4⟩
    · have e : refR X B lo = lo := by unfold refR; rw [if_neg hup]
      rw [decide_eq_false hup]
      refine rn ?_
      refine G.ret1 rfl rfl rfl rfl ?_
      exact ⟨⟨lo, rfl, by omega, hR _ e.symm⟩, hx4⟩
end Go.Proofs.YtcngoccnfmhhnaaGreatDoor
end
section
open Go Go.Vg Go.RowKit Go.Proofs Go.Proofs.YtcngoccnfmhhnaaGreatDoor
namespace Go.Proofs.YtcngoccnfmhhnaaGreatDoor
open Go.Nm

theorem digitR_ok (c : UInt8) (w : World) : Ret Tryz.prog 154 ⟨[U c]⟩ w fun r w' => r = .bool (isD c) ∧ Ext w w' := by
  refine ret_of_G Tryz.func154 rfl Tryz.ntmps154 rfl ?_
  simp only [argEnv]
  refine rn ?_
  refine G.ret1 rfl rfl rfl rfl ?_
  refine ⟨?_, Ext.refl _⟩
  unfold isD
  congr 2 <;> exact decide_eq_decide.2 (by omega)
theorem nanR_ok (w : World) : Ret Tryz.prog 152 ⟨[]⟩ w fun r w' => r = Fl nanB ∧ Ext w w' := by
  refine ret_of_G Tryz.func152 rfl Tryz.ntmps152 rfl ?_
  simp only [argEnv]
  refine rn ?_
  refine GL.cons (Step.ext rfl rfl (by repeat (first | exact OpL.nil | refine OpL.cons (Op1.of rfl (by first | exact fun _ => rfl | exact fun h => h | exact fun h => bL h | exact fun h => bL (bL h) | exact fun h => bL (bL (bL h)))) ?_)) (run_ofbits Tryz.func41 (by kernel_rfl) (by kernel_rfl) (by kernel_rfl) (by kernel_rfl) nanB _) rfl ?_)
  refine rn ?_
  refine G.ret1 rfl rfl rfl rfl ?_
  exact ⟨rfl, Ext.refl _⟩
theorem signedR_ok (b : Nat) (neg : Bool) (w : World) (hb : b < 2 ^ 63) : Ret Tryz.prog 153 ⟨[.int .u64 b, .bool neg]⟩ w fun r w' => r = Fl (b + sgn neg) ∧ Ext w w' := by
  have hor := or_sgn hb true
  refine ret_of_G Tryz.func153 rfl Tryz.ntmps153 rfl ?_
  simp only [argEnv]
  refine rn ?_
  cases neg
  · refine rn ?_
    refine GL.cons (Step.ext rfl rfl (by repeat (first | exact OpL.nil | refine OpL.cons (Op1.of rfl (by first | exact fun _ => rfl | exact fun h => h | exact fun h => bL h | exact fun h => bL (bL h) | exact fun h => bL (bL (bL h)))) ?_)) (run_ofbits Tryz.func41 (by kernel_rfl) (by kernel_rfl) (by kernel_rfl) (by kernel_rfl) _ _) rfl ?_)
    refine rn ?_
    refine G.ret1 rfl rfl rfl rfl ?_
    exact ⟨rfl, Ext.refl _⟩
  · refine rn ?_
    rw [show (9223372036854775808 : Int) = ((sgn true : Nat) : Int) by decide, hor]
    refine GL.cons (Step.ext rfl rfl (by repeat (first | exact OpL.nil | refine OpL.cons (Op1.of rfl (by first | exact fun _ => rfl | exact fun h => h | exact fun h => bL h | exact fun h => bL (bL h) | exact fun h => bL (bL (bL h)))) ?_)) (run_ofbits Tryz.func41 (by kernel_rfl) (by kernel_rfl) (by kernel_rfl) (by kernel_rfl) _ _) rfl ?_)
    refine rn ?_
    refine G.ret1 rfl rfl rfl rfl ?_
    exact ⟨rfl, Ext.refl _⟩
set_option maxHeartbeats 1000000 in
theorem lowerR_ok (s : List UInt8) (w : World) (hs : s.length ≤ 1000000) : Ret Tryz.prog 151 ⟨[S s]⟩ w fun r w' => r = S (s.map lowB) ∧ Ext w w' := by
  refine ret_of_G Tryz.func151 rfl Tryz.ntmps151 rfl ?_
  simp only [argEnv]
  refine rn ?_
  refine GL.cons (Step.strBytesF tb rfl (Op1.of rfl (fun _ => rfl)) rfl rfl rfl rfl ?_)
  intro v W1 hf1 hx1
  refine rn ?_
  refine (G.loop (fun i : Nat => [(3, none, v), (4, none, .int .i64 i)]) (fun i W => Ext w W ∧ Frz W w.heap.size v 5 ((s.take i).map lowB ++ s.drop i) ∧ i ≤ s.length) (fun i => s.length - i) 0 (by repeat (first | exact Sub.nil _ | refine Sub.cons rfl ?_)) ⟨hx1, by simpa using hf1, Nat.zero_le _⟩ ?_)
  clear hf1 hx1
  rintro i W ⟨hx, hf, hi⟩
  have hlen : ((s.take i).map lowB ++ s.drop i).length = s.length := by rw [List.length_append, List.length_map, List.length_take, List.length_drop]; omega
  have hby := hf.sli (by rw [hlen]; omega)
  have hsl : Sli W v 1 (bysC ((s.take i).map lowB ++ s.drop i)) := hby
  refine rn ?_
  rw [bysC_len, hlen]
  refine rn ?_
  first | refine G.condD rfl (fun hc => ?_) (fun hc => ?_) | refine G.condN rfl (fun hc => ?_) (fun hc => ?_) | refine G.cond rfl (fun hc => ?_) (fun hc => ?_)
  · have hlt : i < s.length := by omega
    have hdr : s.drop i = s[i] :: s.drop (i + 1) := List.drop_eq_getElem_cons hlt
    have htk : s.take (i + 1) = s.take i ++ [s[i]] := List.take_succ_eq_append_getElem hlt
    have htl : ((s.take i).map lowB).length = i := by rw [List.length_map, List.length_take]; omega
    generalize s[i] = c at hdr htk
    rw [hdr] at hf hsl hlen
    have hget : (bysC ((s.take i).map lowB ++ c :: s.drop (i + 1)))[i]? = some [U c] := by
      unfold bysC
      rw [List.getElem?_map, List.getElem?_append_right (by omega), htl, Nat.sub_self]; rfl
    have hlow := lowB_nat c
    refine rn ?_
    refine sIa tb i ?_ (hj := fun _ => ⟨rfl, by rw [bysC_len, hlen]; exact hlt⟩)
    refine rn ?_
    refine sIa tb i ?_ (hj := fun _ => ⟨rfl, by rw [bysC_len, hlen]; exact hlt⟩)
    refine rn ?_
    have hce : (decide ((65 : Int) ≤ (c.toNat : Int)) && decide ((c.toNat : Int) ≤ 90)) = decide (65 ≤ c.toNat ∧ c.toNat ≤ 90) := by
      rw [Bool.eq_iff_iff]
      simp only [Bool.and_eq_true, decide_eq_true_eq]
      omega
    rw [hce]
    by_cases hup : 65 ≤ c.toNat ∧ c.toNat ≤ 90
    · rw [decide_eq_true hup]
      rw [if_pos hup] at hlow
      refine rn ?_
      refine sIa tb i ?_ (hj := fun _ => ⟨rfl, by rw [bysC_len, hlen]; exact hlt⟩)
      refine rn ?_
      refine GL.cons (Step.arith (k := .u8) (a := (c.toNat : Int)) (b := 32) (r := ((lowB c).toNat : Int)) rfl (Op1.of rfl (by first | exact fun _ => rfl | exact fun h => h | exact fun h => bL h | exact fun h => bL (bL h) | exact fun h => bL (bL (bL h)))) (Op1.of rfl (by first | exact fun _ => rfl | exact fun h => h | exact fun h => bL h | exact fun h => bL (bL h) | exact fun h => bL (bL (bL h)))) ((Go.Vg.wrap_u8 _).trans (by omega)) rfl ?_)
      refine sIa tb i ?_ (hj := fun _ => ⟨rfl, by rw [bysC_len, hlen]; exact hlt⟩)
      refine GL.cons (Step.storeF tb (u := lowB c) rfl (Op1.of rfl (fun _ => rfl)) (Op1.of rfl (fun _ => rfl)) rfl hf (by rw [hlen]; exact hlt) ?_)
      intro W2 hf2 hb2
      refine rn ?_
      refine sAd tb (r := ((i + 1 : Nat) : Int)) ?_
      refine rn ?_
      refine G.lp (x := i) (i + 1) (by repeat (first | exact Sub.nil _ | refine Sub.cons rfl ?_)) ⟨Below.trans hx hb2, ?_, by omega⟩ (by omega)
      rw [set_mid _ _ _ _ htl] at hf2
      rw [htk, List.map_append]
      exact hf2
    · rw [decide_eq_false hup]
      have hlc : lowB c = c := by unfold lowB; rw [if_neg hup]
      refine rn ?_
      refine sAd tb (r := ((i + 1 : Nat) : Int)) ?_
      refine rn ?_
      refine G.lp (x := i) (i + 1) (by repeat (first | exact Sub.nil _ | refine Sub.cons rfl ?_)) ⟨hx, ?_, by omega⟩ (by omega)
      rw [htk, List.map_append, List.map_cons, List.map_nil, hlc, List.append_assoc]
      exact hf
  · have hie : i = s.length := by omega
    subst hie
    rw [List.take_length, List.drop_length, List.append_nil] at hf hby
    refine rn ?_
    refine sByS tb hby ?_
    refine rn ?_
    refine G.ret1 rfl rfl rfl rfl ?_
    exact ⟨rfl, hx⟩
end Go.Proofs.YtcngoccnfmhhnaaGreatDoor
end
section
open Go Go.Vg Go.RowKit Go.Proofs Go.Proofs.YtcngoccnfmhhnaaGreatDoor
namespace Go.Proofs.YtcngoccnfmhhnaaGreatDoor
namespace Num
open Go.Nm (numL numL_snoc numL_lt numL_ge allD)

theorem byIN {n : Nat} (h : n < 10) : (byI (48 + (n : Int))).toNat = 48 + n := by
  have := byI_int (48 + (n : Int)); omega
theorem dig_iff (c : UInt8) : dig c = true ↔ 48 ≤ c.toNat ∧ c.toNat ≤ 57 := by
  unfold dig rngC
  simp only [Bool.and_eq_true, decide_eq_true_eq]
  omega
theorem isD_dig (c : UInt8) : Nm.isD c = dig c := by
  rw [Bool.eq_iff_iff, dig_iff]
  unfold Nm.isD
  simp only [Bool.and_eq_true, decide_eq_true_eq]
theorem intL_num : ∀ (l : List UInt8) (a : Nat) (r : Int), (∀ c ∈ l, dig c = true) → a ≤ 9223372036854775808 → intL (-(a : Int)) l = some r → r = -((numL l a : Nat) : Int) ∧ numL l a ≤ 9223372036854775808
  | [], a, r, _, ha, h => by
    simp only [intL, Option.some.injEq] at h
    exact ⟨h.symm, ha⟩
  | c :: l, a, r, hd, ha, h => by
    have hc := (dig_iff c).1 (hd c (List.mem_cons_self ..))
    have htd : (-9223372036854775808 + ((c.toNat : Int) - 48)).tdiv 10 = -((9223372036854775808 - ((c.toNat : Int) - 48)) / 10) := by
      rw [show (-9223372036854775808 + ((c.toNat : Int) - 48)) = -(9223372036854775808 - ((c.toNat : Int) - 48)) by omega, Int.neg_tdiv, Int.tdiv_eq_ediv_of_nonneg (by omega)]
    rw [intL, htd] at h
    split at h
    · cases h
    · rename_i hge
      have e : 10 * -(a : Int) - ((c.toNat : Int) - 48) = -((10 * a + (c.toNat - 48) : Nat) : Int) := by omega
      rw [e] at h
      exact intL_num l _ r (fun x hx => hd x (List.mem_cons_of_mem _ hx)) (by omega) h
theorem digF_head : ∀ (f n : Nat), 0 < n → n < 10 ^ (f + 1) → (digF f n).head? ≠ some 48
  | 0, n, h0, h => by
    simp only [digF, List.head?_cons, ne_eq, Option.some.injEq]
    intro e
    have := congrArg UInt8.toNat e
    rw [byIN (by omega)] at this
    simp at this; omega
  | f + 1, n, h0, h => by
    simp only [digF]
    split
    · simp only [List.head?_cons, ne_eq, Option.some.injEq]
      intro e
      have := congrArg UInt8.toNat e
      rw [byIN (by omega)] at this
      simp at this; omega
    · have ih := digF_head f (n / 10) (by omega) (by rw [Nat.pow_succ] at h; exact Nat.div_lt_of_lt_mul (by rw [Nat.mul_comm]; exact h))
      have hne : digF f (n / 10) ≠ [] := by
        cases f <;> simp only [digF]
        · simp
        · split <;> simp
      cases he : digF f (n / 10) with
      | nil => exact absurd he hne
      | cons a t => rw [he] at ih; exact ih
theorem digF_num (l : List UInt8) (hd : ∀ c ∈ l, dig c = true) (hl : l.length ≤ 19) (hne : l ≠ []) (hh : l.head? ≠ some 48 ∨ l.length = 1) : digF 19 (numL l 0) = l := by
  induction hn : l.length generalizing l with
  | zero => exact absurd (List.eq_nil_of_length_eq_zero hn) hne
  | succ n ih =>
    obtain ⟨r, c, rfl⟩ : ∃ r c, l = r ++ [c] := ⟨l.dropLast, l.getLast hne, (List.dropLast_concat_getLast hne).symm⟩
    have hc := (dig_iff c).1 (hd c (by simp))
    have hlt := numL_lt (r ++ [c]) 0 fun x hx => ((dig_iff x).1 (hd x hx)).2
    have hp : 10 ^ (r ++ [c]).length ≤ 10 ^ 19 := Nat.pow_le_pow_right (by omega) hl
    rw [digF_step _ (by omega), numL_snoc]
    have hcb : byI (48 + ((c.toNat - 48 : Nat) : Int)) = c := by
      rw [← UInt8.toNat_inj, byIN (by omega)]; omega
    cases r with
    | nil =>
      simp only [numL, Nat.mul_zero, Nat.zero_add]
      rw [if_pos (by omega), hcb]
      rfl
    | cons d r =>
      have hlen : ((d :: r) ++ [c]).length = (d :: r).length + 1 := by simp
      have hd48 : d ≠ 48 := by
        rcases hh with h | h
        · simpa using h
        · simp at h
      have hdd := (dig_iff d).1 (hd d (by simp))
      have hd1 : 1 ≤ d.toNat - 48 := by
        have : d.toNat ≠ 48 := fun e => hd48 (by rw [← UInt8.toNat_inj]; exact e)
        omega
      have hge := numL_ge r (10 * 0 + (d.toNat - 48))
      have h10 : 1 ≤ 10 ^ r.length := Nat.pos_of_ne_zero (by simp)
      have hN : 1 ≤ numL (d :: r) 0 := by
        show 1 ≤ numL r (10 * 0 + (d.toNat - 48))
        refine Nat.le_trans ?_ hge
        exact Nat.one_le_iff_ne_zero.2 (Nat.mul_ne_zero (by omega) (by omega))
      have e1 : (10 * numL (d :: r) 0 + (c.toNat - 48)) / 10 = numL (d :: r) 0 := by omega
      have e2 : (10 * numL (d :: r) 0 + (c.toNat - 48)) % 10 = c.toNat - 48 := by omega
      rw [if_neg (by omega), e1, e2, hcb]
      rw [ih (d :: r) (fun x hx => hd x (List.mem_append_left _ hx)) (by omega) (by simp) (.inl (by simpa using hd48)) (by omega)]
/-- digits alone that are too many are no number -/
theorem intL_long {l : List UInt8} {r : Int} (hd : ∀ c ∈ l, dig c = true) (hl : 20 ≤ l.length) (hh : l.head? ≠ some 48) : intL 0 l ≠ some r := by
  intro h
  have := (intL_num l 0 r hd (by omega) h).2
  cases l with
  | nil => simp at hl
  | cons d r =>
    have hdd := (dig_iff d).1 (hd d (by simp))
    have hd1 : 1 ≤ d.toNat - 48 := by
      have : d.toNat ≠ 48 := fun e => hh (by simp only [List.head?_cons, Option.some.injEq]; rw [← UInt8.toNat_inj]; exact e)
      omega
    have hge := numL_ge r (10 * 0 + (d.toNat - 48))
    have h10 : 10 ^ 19 ≤ 10 ^ r.length := Nat.pow_le_pow_right (by omega) (by simp at hl; omega)
    have h11 : 1 * 10 ^ 19 ≤ (10 * 0 + (d.toNat - 48)) * 10 ^ r.length := Nat.mul_le_mul (by omega) h10
    have : numL (d :: r) 0 = numL r (10 * 0 + (d.toNat - 48)) := rfl
    omega
theorem plain_step (n : Int) (D : List UInt8) (w : World) (h1 : -9223372036854775808 ≤ n) (h2 : n ≤ 9223372036854775807) (hl : D.length ≤ 100) (hD : 10 ≤ n.natAbs → ∀ w : World, Ret Tryz.prog 79 ⟨[.int .i64 (n.tdiv 10)]⟩ w fun r w' => r = S D ∧ Ext w w') :
    Ret Tryz.prog 79 ⟨[.int .i64 n]⟩ w fun r w' => r = S (if n.natAbs < 10 then [byI (48 + (n.natAbs : Int))] else D ++ [byI (48 + ((n.natAbs % 10 : Nat) : Int))]) ∧ Ext w w' := by
  have ha : (n.tmod 10).natAbs = n.natAbs % 10 := Int.natAbs_tmod n 10
  have hb : (n.tdiv 10).natAbs = n.natAbs / 10 := Int.natAbs_tdiv n 10
  obtain ⟨r, hr⟩ : ∃ r, n.tmod 10 = r := ⟨_, rfl⟩
  obtain ⟨q, hq⟩ : ∃ q, n.tdiv 10 = q := ⟨_, rfl⟩
  rw [hr] at ha
  rw [hq] at hb hD
  have hr9 := Nat.mod_lt n.natAbs (show 0 < 10 by decide)
  refine ret_of_G Tryz.func79 rfl Tryz.ntmps79 rfl ?_
  simp only [argEnv]
  refine rn ?_
  refine sRem hr ?_
  refine rn ?_
  refine G.join (fun _ : Unit => [(0, none, .int .i64 n), (3, none, .int .i64 ((n.natAbs % 10 : Nat) : Int))]) (fun _ w' => w' = w) ?_ ?_
  · rintro _ w_ rfl
    refine rn ?_
    refine sAd tb ?_
    refine sCb tb ?_
    refine sBs' tb (bysC [byI (48 + ((n.natAbs % 10 : Nat) : Int))]) ?_ (hkl := bysC_k _)
    intro v1 w1 ho1 hs1 hx1
    refine sByS tb ho1.sli ?_
    refine rn ?_
    refine sQuo (r := q) (by rw [hq]; exact wrap_i64 (by omega) (by omega)) ?_
    refine rn ?_
    first | refine G.condD rfl (fun hc => ?_) (fun hc => ?_) | refine G.condN rfl (fun hc => ?_) (fun hc => ?_) | refine G.cond rfl (fun hc => ?_) (fun hc => ?_)
    · have : n.natAbs < 10 := by omega
      rw [if_pos this]
      refine rn ?_
      refine G.ret1 rfl rfl rfl rfl ?_
      exact ⟨by rw [Nat.mod_eq_of_lt this], hx1⟩
    · have : ¬ n.natAbs < 10 := by omega
      rw [if_neg this]
      refine rn ?_
      refine sQuo (r := q) (by rw [hq]; exact wrap_i64 (by omega) (by omega)) ?_
      refine sCall c79 (hD (by omega) w1) ?_
      rintro _ w2 ⟨rfl, hx2⟩
      refine rn ?_
      refine sCat tb ?_
      refine rn ?_
      refine G.ret1 rfl rfl rfl rfl ?_
      exact ⟨rfl, hx1.trans hx2⟩
  · first | refine G.condD rfl (fun hc => ?_) (fun hc => ?_) | refine G.condN rfl (fun hc => ?_) (fun hc => ?_) | refine G.cond rfl (fun hc => ?_) (fun hc => ?_)
    · refine rn ?_
      refine GL.cons (Step.neg (r := ((n.natAbs % 10 : Nat) : Int)) rfl (Op1.of rfl (by first | exact fun _ => rfl | exact fun h => h | exact fun h => bL h | exact fun h => bL (bL h) | exact fun h => bL (bL (bL h)))) ((wrap_i64 (n := 0 - r) (by omega) (by omega)).trans (by omega)) rfl ?_)
      refine rn ?_
      exact G.met () (by repeat (first | exact Sub.nil _ | refine Sub.cons rfl ?_)) rfl
    · obtain rfl : r = ((n.natAbs % 10 : Nat) : Int) := by omega
      refine rn ?_
      exact G.met () (by repeat (first | exact Sub.nil _ | refine Sub.cons rfl ?_)) rfl
theorem plain_ok : ∀ (f : Nat) (n : Int), n.natAbs < 10 ^ (f + 1) → -9223372036854775808 ≤ n → n ≤ 9223372036854775807 → f ≤ 30 → ∀ w : World,
    Ret Tryz.prog 79 ⟨[.int .i64 n]⟩ w fun r w' => r = S (digF f n.natAbs) ∧ Ext w w'
  | 0, n, h, h1, h2, _, w => by
    have := plain_step n [] w h1 h2 (by simp) (fun h' => by omega)
    rw [if_pos (by omega)] at this
    exact this
  | f + 1, n, h, h1, h2, hf, w => by
    have hb : (n.tdiv 10).natAbs = n.natAbs / 10 := Int.natAbs_tdiv n 10
    have hl := digF_len f (n.natAbs / 10)
    have := plain_step n (digF f (n.natAbs / 10)) w h1 h2 (by omega) (fun _ w' => by
      have := plain_ok f (n.tdiv 10) (by rw [hb]; rw [Nat.pow_succ] at h; exact Nat.div_lt_of_lt_mul (by rw [Nat.mul_comm]; exact h)) (by omega) (by omega) (by omega) w'
      rw [hb] at this; exact this)
    exact this
theorem refIntText_ok (n : Int) (w : World) (h1 : -9223372036854775808 ≤ n) (h2 : n ≤ 9223372036854775807) : Ret Tryz.prog 46 ⟨[.int .i64 n]⟩ w fun r w' => r = S (decN n) ∧ Ext w w' := by
  have hp := plain_ok 19 n (by omega) h1 h2 (by omega)
  have hl := digF_len 19 n.natAbs
  refine ret_of_G Tryz.func46 rfl Tryz.ntmps46 rfl ?_
  simp only [argEnv]
  refine rn ?_
  first | refine G.condD rfl (fun hc => ?_) (fun hc => ?_) | refine G.condN rfl (fun hc => ?_) (fun hc => ?_) | refine G.cond rfl (fun hc => ?_) (fun hc => ?_)
  · refine rn ?_
    refine sCall c79 (hp w) ?_
    rintro _ w1 ⟨rfl, hx1⟩
    refine sCat tb ?_
    refine rn ?_
    refine G.ret1 rfl rfl rfl rfl ?_
    exact ⟨by unfold decN; rw [if_pos hc]; rfl, hx1⟩
  · refine rn ?_
    refine sCall c79 (hp w) ?_
    rintro _ w1 ⟨rfl, hx1⟩
    refine rn ?_
    refine G.ret1 rfl rfl rfl rfl ?_
    exact ⟨by unfold decN; rw [if_neg hc], hx1⟩


theorem allR_all {l : List UInt8} (h : ∀ c ∈ l, dig c = true) : runP l = l.length := by
  unfold runP
  congr 1
  induction l with
  | nil => rfl
  | cons c l ih => rw [List.takeWhile_cons, h c (List.mem_cons_self ..), if_pos rfl, ih fun x hx => h x (List.mem_cons_of_mem _ hx)]
theorem allR_no {l : List UInt8} {k : Nat} (hk : k < l.length) (h : dig (l.getD k 0) = false) : runP l ≠ l.length := by
  intro e
  have := List.all_eq_true.1 (runP_all e) l[k] (List.getElem_mem hk)
  rw [show l.getD k 0 = l[k] by simp [List.getD, hk]] at h
  rw [h] at this; cases this
theorem intP_no {s : List UInt8} (h : badP s = true) : intP s = none := by unfold intP; rw [if_pos h]
theorem badP_dig {s : List UInt8} (h : runP (restP s) ≠ (restP s).length) : badP s = true := by
  unfold badP
  rw [decide_eq_false (show ¬ ((runP (restP s) : Int) = (restP s).length) by omega)]
  simp
theorem rest_len (s : List UInt8) : (restP s).length ≤ s.length := by
  unfold restP; split
  · rw [List.length_drop]; omega
  · exact Nat.le_refl _
theorem headGD {l : List UInt8} (h : 0 < l.length) : l.head? = some (l.getD 0 0) := by
  cases l with
  | nil => cases h
  | cons c l => rfl
theorem bad48 {s : List UInt8} (h : 0 < (restP s).length) (hh : (restP s).head? = some 48) (hs : s ≠ [48]) : badP s = true := by
  have h0 : (restP s).getD 0 0 = 48 := by rw [headGD h] at hh; exact Option.some.inj hh
  unfold badP
  rw [h0, decide_eq_false hs]
  simp
theorem rest_cons {s : List UInt8} (h : Lib.hasPrefix s [45] = true) : s = 45 :: restP s := by
  unfold restP
  rw [if_pos h]
  cases s with
  | nil => simp [Lib.hasPrefix] at h
  | cons c s => simp [Lib.hasPrefix] at h; rw [← h]; rfl
theorem neg_cond (s : List UInt8) : (decide ((0 : Int) < (s.length : Int)) && decide (((s.getD 0 0).toNat : Int) = 45)) = Lib.hasPrefix s [45] := by
  cases s with
  | nil => rfl
  | cons c s =>
    rw [decide_eq_true (show (0 : Int) < ((c :: s).length : Int) by rw [List.length_cons]; omega), Bool.true_and]
    simp only [List.getD_cons_zero, Lib.hasPrefix, List.isPrefixOf, Bool.and_true]
    rw [Bool.eq_iff_iff]
    simp only [decide_eq_true_eq, beq_iff_eq]
    rw [← UInt8.toNat_inj]
    show _ ↔ 45 = _
    omega
set_option maxHeartbeats 4000000 in
theorem refInt_ok (s : List UInt8) (w : World) (hs : s.length ≤ 4000000000) : Ret Tryz.prog 129 ⟨[S s]⟩ w fun r w' => (∃ n e : Int, r = .tuple ⟨[.int .i64 n, .int .i64 e]⟩ ∧ ((e = 0 ∧ intP s = some n) ∨ (e = 8 ∧ intP s = none))) ∧ Ext w w' := by
  have hrl := rest_len s
  refine ret_of_G Tryz.func129 rfl Tryz.ntmps129 rfl ?_
  simp only [argEnv]
  refine rn ?_
  refine sBs tb 0 ?_ (hj := fun hc => ⟨rfl, by have hc : decide ((0 : Int) < (s.length : Int)) = true := hc; simp only [decide_eq_true_eq] at hc; omega⟩)
  refine rn ?_
  rw [neg_cond]
  refine G.join (fun _ : Unit => [(0, none, S s), (4, none, S (restP s)), (5, none, .bool (Lib.hasPrefix s [45]))]) (fun _ W => W = w) ?_ ?_
  rotate_left
  · cases hn : Lib.hasPrefix s [45] with
    | false =>
      refine rn ?_
      exact G.met () (by unfold restP; rw [hn]; exact (by repeat (first | exact Sub.nil _ | refine Sub.cons rfl ?_))) rfl
    | true =>
      refine rn ?_
      refine GL.cons (Step.sliceSl tb 1 rfl (Op1.of rfl (by first | exact fun _ => rfl | exact fun h => h | exact fun h => bL h | exact fun h => bL (bL h) | exact fun h => bL (bL (bL h)))) (Op1.of rfl (by first | exact fun _ => rfl | exact fun h => h | exact fun h => bL h | exact fun h => bL (bL h) | exact fun h => bL (bL (bL h)))) rfl (fun _ => ⟨rfl, ?_⟩) rfl ?_)
      · rw [rest_cons hn, List.length_cons]; omega
      refine rn ?_
      exact G.met () (by unfold restP; rw [hn]; exact (by repeat (first | exact Sub.nil _ | refine Sub.cons rfl ?_))) rfl
  rintro _ W hW
  obtain rfl : w = W := hW.symm
  refine rn ?_
  obtain ⟨t, ht⟩ : ∃ t, t = restP s := ⟨_, rfl⟩
  obtain ⟨ng, hng⟩ : ∃ ng, ng = Lib.hasPrefix s [45] := ⟨_, rfl⟩
  have hpi : badP s = false → intP s = match intL 0 t with
      | none => none
      | some n => if ng = true then some n else if n = -9223372036854775808 then none else some (-n) := by
    intro hb
    rw [ht, hng]
    unfold intP; rw [if_neg (by rw [hb]; simp)]
    try rfl
  have hb1 : runP t ≠ t.length → badP s = true := by rw [ht]; exact badP_dig
  have hb2 : 0 < t.length → t.head? = some 48 → s ≠ [48] → badP s = true := by rw [ht]; exact bad48
  have hbe : t = [] → badP s = true := by
    rw [ht]; intro h; unfold badP; rw [decide_eq_true h]; rfl
  have hgood : runP t = t.length → t ≠ [] → (t.head? ≠ some 48 ∨ s = [48]) → badP s = false := by
    rw [ht]; intro h1 h2 h3
    unfold badP
    rw [decide_eq_false h2, decide_eq_true (show ((runP (restP s) : Int) = (restP s).length) by omega)]
    rcases h3 with h | h
    · rw [headGD (List.length_pos_iff.2 h2)] at h
      rw [decide_eq_false (fun e => h (by congr 1; rw [← UInt8.toNat_inj]; show _ = 48; omega))]
      rfl
    · rw [decide_eq_true h]; simp
  have hsn : ng = true → s = 45 :: t := by rw [ht, hng]; exact rest_cons
  have hsp : ng = false → s = t := by rw [ht, hng]; intro h; unfold restP; rw [h]; rfl
  rw [← ht, ← hng]
  rw [← ht] at hrl
  clear ht hng
  refine (G.loop (fun k : Nat => [(0, none, S s), (4, none, S t), (5, none, .bool ng), (6, none, .int .i64 (-((numL (t.take k) 0 : Nat) : Int))), (7, none, .int .i64 (k : Nat))]) (fun k W => Ext w W ∧ k ≤ t.length ∧ k ≤ 19 ∧ (∀ c ∈ t.take k, dig c = true) ∧ numL (t.take k) 0 ≤ 9223372036854775808 ∧ intL (-((numL (t.take k) 0 : Nat) : Int)) (t.drop k) = intL 0 t) (fun k => t.length - k) 0 (by repeat (first | exact Sub.nil _ | refine Sub.cons rfl ?_)) ⟨Ext.refl _, Nat.zero_le _, Nat.zero_le _, by simp, by simp [numL], by simp [numL]⟩ ?_)
  rintro k W0 ⟨hx0, hk, hk2, hd, hb, hin⟩
  refine rn ?_
  first | refine G.condD rfl (fun hc => ?_) (fun hc => ?_) | refine G.condN rfl (fun hc => ?_) (fun hc => ?_) | refine G.cond rfl (fun hc => ?_) (fun hc => ?_)
  · have hlt : k < t.length := by omega
    have htk : t.take (k + 1) = t.take k ++ [t.getD k 0] := by rw [List.take_succ_eq_append_getElem hlt, List.getD_eq_getElem?_getD, List.getElem?_eq_getElem hlt]; rfl
    have hsn' := numL_snoc (t.take k) (t.getD k 0) 0
    rw [← htk] at hsn'
    rw [drop_at hlt] at hin
    refine rn ?_
    refine sBs tb k ?_
    refine rn ?_
    refine sCall c154 (digitR_ok (t.getD k 0) _) ?_
    rintro _ W ⟨rfl, hxW⟩
    have hxW := hx0.trans hxW
    rw [isD_dig]
    cases hdk : dig (t.getD k 0)
    · refine rn ?_
      refine G.ret2 rfl rfl rfl rfl rfl ?_
      exact ⟨⟨0, 8, rfl, .inr ⟨rfl, intP_no (hb1 (allR_no hlt hdk))⟩⟩, hxW⟩
    have hdd : 48 ≤ (t.getD k 0).toNat ∧ (t.getD k 0).toNat ≤ 57 := (dig_iff _).1 hdk
    refine rn ?_
    first | refine G.condD rfl (fun hc => ?_) (fun hc => ?_) | refine G.condN rfl (fun hc => ?_) (fun hc => ?_) | refine G.cond rfl (fun hc => ?_) (fun hc => ?_)
    · have h19 : 19 ≤ k := by
        have : (19 : Int) ≤ k := by simpa using hc
        omega
      refine rn ?_
      refine G.ret2 rfl rfl rfl rfl rfl ?_
      refine ⟨⟨0, 8, rfl, .inr ⟨rfl, ?_⟩⟩, hxW⟩
      by_cases hall : runP t = t.length
      · have hda : ∀ c ∈ t, dig c = true := List.all_eq_true.1 (runP_all hall)
        by_cases h48 : t.head? = some 48
        · refine intP_no (hb2 (by omega) h48 fun e => ?_)
          rw [e] at hrl
          simp at hrl; omega
        · cases hbb : badP s with
          | true => exact intP_no hbb
          | false =>
            rw [hpi hbb]
            cases hi : intL 0 t with
            | none => rfl
            | some r => exact absurd hi (intL_long hda (by omega) h48)
      · exact intP_no (hb1 hall)
    have h19 : k < 19 := by
      have : ¬ (19 : Int) ≤ k := by simpa using hc
      omega
    clear hc
    refine rn ?_
    refine sBs tb k ?_
    obtain ⟨d, hde⟩ : ∃ d, d = (t.getD k 0).toNat - 48 := ⟨_, rfl⟩
    rw [← hde] at hsn'
    have hde' : ((t.getD k 0).toNat : Int) - 48 = (d : Int) := by omega
    have hq : (-9223372036854775808 + ((d : Nat) : Int)).tdiv 10 = -((9223372036854775808 - (d : Int)) / 10) := by
      rw [show -9223372036854775808 + ((d : Nat) : Int) = -(9223372036854775808 - (d : Int)) by omega, Int.neg_tdiv, Int.tdiv_eq_ediv_of_nonneg (by omega)]
    rw [intL, hde', hq] at hin
    refine rn ?_
    refine GL.cons (Step.arith (k := .u8) (a := (t.getD k 0).toNat) (r := ((d : Nat) : Int)) rfl (Op1.of rfl (by first | exact fun _ => rfl | exact fun h => h | exact fun h => bL h | exact fun h => bL (bL h) | exact fun h => bL (bL (bL h)))) (Op1.of rfl (by first | exact fun _ => rfl | exact fun h => h | exact fun h => bL h | exact fun h => bL (bL h) | exact fun h => bL (bL (bL h)))) ((Go.Vg.wrap_u8 _).trans (by omega)) rfl ?_)
    refine rn ?_
    refine sCv tb (r := ((d : Nat) : Int)) ?_
    refine rn ?_
    refine sAd tb (r := -9223372036854775808 + ((d : Nat) : Int)) ?_
    refine rn ?_
    refine sQuo (r := -((9223372036854775808 - (d : Int)) / 10)) (by rw [hq]; exact wrap_i64 (by omega) (by omega)) ?_
    refine rn ?_
    first | refine G.condD rfl (fun hc => ?_) (fun hc => ?_) | refine G.condN rfl (fun hc => ?_) (fun hc => ?_) | refine G.cond rfl (fun hc => ?_) (fun hc => ?_)
    · rw [if_pos (by omega)] at hin
      refine rn ?_
      refine G.ret2 rfl rfl rfl rfl rfl ?_
      refine ⟨⟨0, 8, rfl, .inr ⟨rfl, ?_⟩⟩, hxW⟩
      cases hbb : badP s with
      | true => exact intP_no hbb
      | false => rw [hpi hbb, ← hin]
    rw [if_neg (by omega)] at hin
    refine rn ?_
    refine sAd tb (r := -((10 * numL (t.take k) 0 : Nat) : Int)) (hp := (wrap_i64 (n := 10 * -((numL (t.take k) 0 : Nat) : Int)) (by omega) (by omega)).trans (by omega)) ?_
    refine rn ?_
    refine sAd tb (r := -((numL (t.take (k + 1)) 0 : Nat) : Int)) (hp := (wrap_i64 (n := -((10 * numL (t.take k) 0 : Nat) : Int) - ((d : Nat) : Int)) (by omega) (by omega)).trans (by omega)) ?_
    refine rn ?_
    refine sAd tb (r := ((k + 1 : Nat) : Int)) ?_
    refine rn ?_
    refine G.lp (x := k) (k + 1) (by repeat (first | exact Sub.nil _ | refine Sub.cons rfl ?_)) ⟨hxW, by omega, by omega, ?_, by omega, ?_⟩ (by omega)
    · intro c hc
      rw [htk] at hc
      rcases List.mem_append.1 hc with h | h
      · exact hd c h
      · rw [List.mem_singleton.1 h]; exact hdk
    · rw [← hin, hsn']
      congr 1
      omega
  have hke : t.take k = t := List.take_of_length_le (by omega)
  have hkl : k = t.length := by omega
  subst hkl
  rw [hke] at hd hb hin
  rw [hke]
  rw [List.drop_of_length_le (Nat.le_refl _)] at hin
  have hin : intL 0 t = some (-((numL t 0 : Nat) : Int)) := by rw [← hin]; rfl
  have hrun := allR_all hd
  clear hke hb1 hc
  obtain ⟨m, hm⟩ : ∃ m, m = numL t 0 := ⟨_, rfl⟩
  have hdn := digF_num t hd hk2
  have hhd : 0 < m → (digF 19 m).head? ≠ some 48 := fun h => digF_head 19 m h (by omega)
  have h0 : t ≠ [] → t.head? ≠ some 48 → 0 < m := by
    intro h1 h2
    rw [hm]
    cases t with
    | nil => exact absurd rfl h1
    | cons c l =>
      have hc := (dig_iff c).1 (hd c (List.mem_cons_self ..))
      have h3 : c.toNat ≠ 48 := fun e => h2 (by simp only [List.head?_cons, Option.some.injEq]; rw [← UInt8.toNat_inj]; exact e)
      have hge := numL_ge l (10 * 0 + (c.toNat - 48))
      have : numL (c :: l) 0 = numL l (10 * 0 + (c.toNat - 48)) := rfl
      have h10 : 1 ≤ 10 ^ l.length := Nat.pos_of_ne_zero (by simp)
      have : 1 ≤ (10 * 0 + (c.toNat - 48)) * 10 ^ l.length := Nat.one_le_iff_ne_zero.2 (Nat.mul_ne_zero (by omega) (by omega))
      omega
  rw [← hm] at hdn hb hin ⊢
  clear hm
  have hlen0 : t = [] ↔ ((t.length : Int) = 0) := by rw [← List.length_eq_zero_iff]; omega
  rw [hin] at hpi
  cases ng with
  | false =>
    obtain rfl := hsp rfl
    refine rn ?_
    first | refine G.condD rfl (fun hc => ?_) (fun hc => ?_) | refine G.condN rfl (fun hc => ?_) (fun hc => ?_) | refine G.cond rfl (fun hc => ?_) (fun hc => ?_)
    · refine rn ?_
      refine G.ret2 rfl rfl rfl rfl rfl ?_
      refine ⟨⟨0, 8, rfl, .inr ⟨rfl, ?_⟩⟩, hx0⟩
      cases hbb : badP s with
      | true => exact intP_no hbb
      | false => rw [hpi hbb]; simp only; rw [if_neg (by simp), if_pos hc]
    have hc0 : ¬ (-((m : Nat) : Int) = -9223372036854775808) := hc
    clear hc
    refine rn ?_
    refine GL.cons (Step.neg (r := ((m : Nat) : Int)) rfl (Op1.of rfl (by first | exact fun _ => rfl | exact fun h => h | exact fun h => bL h | exact fun h => bL (bL h) | exact fun h => bL (bL (bL h)))) ((wrap_i64 (n := 0 - -((m : Nat) : Int)) (by omega) (by omega)).trans (by omega)) rfl ?_)
    refine rn ?_
    refine GL.cons (Step.callX rfl rfl (by repeat (first | exact OpL.nil | refine OpL.cons (Op1.of rfl (by first | exact fun _ => rfl | exact fun h => h | exact fun h => bL h | exact fun h => bL (bL h) | exact fun h => bL (bL (bL h)))) ?_)) c46 rfl (fun hc => refIntText_ok ((m : Nat) : Int) _ (by omega) (by omega)) ?_)
    intro W2 hx2
    have hx2 := hx0.trans hx2
    have hdc : decN ((m : Nat) : Int) = digF 19 m := by unfold decN; rw [if_neg (by omega), Int.natAbs_natCast]
    rw [hdc]
    refine rn ?_
    refine G.cond rfl (fun hc => ?_) (fun hc => ?_)
    · refine rn ?_
      refine G.ret2 rfl rfl rfl rfl rfl ?_
      refine ⟨⟨0, 8, rfl, .inr ⟨rfl, ?_⟩⟩, hx2⟩
      by_cases hse : s = []
      · exact intP_no (hbe hse)
      have hne : digF 19 m ≠ s := by
        rw [decide_eq_false (fun h => hse (hlen0.2 h))] at hc
        simpa using hc
      have hh : s.head? = some 48 := Decidable.byContradiction fun h => hne (hdn hse (.inl h))
      have hl1 : s.length ≠ 1 := fun h => hne (hdn hse (.inr h))
      exact intP_no (hb2 (List.length_pos_iff.2 hse) hh fun e => hl1 (by rw [e]; rfl))
    · simp only [Bool.or_eq_false_iff, decide_eq_false_iff_not, Bool.not_eq_false', decide_eq_true_eq] at hc
      refine rn ?_
      refine G.ret2 rfl rfl rfl rfl rfl ?_
      refine ⟨⟨_, 0, rfl, .inl ⟨rfl, ?_⟩⟩, hx2⟩
      have hse : s ≠ [] := fun h => hc.1 (hlen0.1 h)
      rw [hpi (hgood hrun hse ?_)]
      · simp only
        rw [if_neg (by simp), if_neg hc0, Int.neg_neg]
      · by_cases hm0 : 0 < m
        · left; rw [← hc.2]; exact hhd hm0
        · right
          rw [← hc.2, show m = 0 by omega]
          decide
  | true =>
    have hst := hsn rfl
    refine rn ?_
    refine GL.cons (Step.callX rfl rfl (by repeat (first | exact OpL.nil | refine OpL.cons (Op1.of rfl (by first | exact fun _ => rfl | exact fun h => h | exact fun h => bL h | exact fun h => bL (bL h) | exact fun h => bL (bL (bL h)))) ?_)) c46 rfl (fun hc => refIntText_ok (-((m : Nat) : Int)) _ (by omega) (by omega)) ?_)
    intro W2 hx2
    have hx2 := hx0.trans hx2
    have hdc : decN (-((m : Nat) : Int)) = if m = 0 then [48] else 45 :: digF 19 m := by
      unfold decN
      by_cases hm0 : m = 0
      · subst hm0; decide
      · rw [if_pos (by omega), if_neg hm0, Int.natAbs_neg, Int.natAbs_natCast]
    rw [hdc]
    have hs48 : s ≠ [48] := by rw [hst]; intro h; cases h
    refine rn ?_
    refine G.cond rfl (fun hc => ?_) (fun hc => ?_)
    · refine rn ?_
      refine G.ret2 rfl rfl rfl rfl rfl ?_
      refine ⟨⟨0, 8, rfl, .inr ⟨rfl, ?_⟩⟩, hx2⟩
      by_cases hse : t = []
      · exact intP_no (hbe hse)
      refine intP_no (hb2 (List.length_pos_iff.2 hse) (Decidable.byContradiction fun h => ?_) hs48)
      have hm0 := h0 hse h
      rw [decide_eq_false (fun h => hse (hlen0.2 h)), if_neg (by omega), hdn hse (.inl h), ← hst] at hc
      simp at hc
    · simp only [Bool.or_eq_false_iff, decide_eq_false_iff_not, Bool.not_eq_false', decide_eq_true_eq] at hc
      refine rn ?_
      refine G.ret2 rfl rfl rfl rfl rfl ?_
      refine ⟨⟨_, 0, rfl, .inl ⟨rfl, ?_⟩⟩, hx2⟩
      have hse : t ≠ [] := fun h => hc.1 (hlen0.1 h)
      obtain ⟨_, h2⟩ := hc
      split at h2
      · exact absurd h2.symm hs48
      · rename_i hm0
        have h3 : digF 19 m = t := by rw [hst] at h2; exact List.tail_eq_of_cons_eq h2
        rw [hpi (hgood hrun hse (.inl (by rw [← h3]; exact hhd (by omega))))]
        simp
end Num
end Go.Proofs.YtcngoccnfmhhnaaGreatDoor
end
section
open Go Go.Vg Go.RowKit Go.Proofs Go.Proofs.YtcngoccnfmhhnaaGreatDoor
namespace Go.Proofs.YtcngoccnfmhhnaaGreatDoor
open Go.Nm

theorem sig_facts (s : List UInt8) :
    (decide ((0 : Int) < ((s.length : Nat) : Int)) && (decide (((s.getD 0 0).toNat : Int) = 43) || decide (((s.getD 0 0).toNat : Int) = 45))) = signed s ∧
    (signed s = true → decide (((s.getD 0 0).toNat : Int) = 45) = minus s ∧ 0 < s.length) ∧ (signed s = false → minus s = false) ∧ (unsign s).length ≤ s.length := by
  refine ⟨?_, ?_, ?_, ?_⟩
  · cases s with
    | nil => rfl
    | cons d l =>
      unfold signed
      rw [Bool.eq_iff_iff, List.getD_cons_zero]
      simp only [List.head?_cons, Bool.and_eq_true, Bool.or_eq_true, beq_iff_eq, decide_eq_true_eq, Option.some.injEq, List.length_cons]
      rw [← UInt8.toNat_inj, ← UInt8.toNat_inj]
      show (_ ∧ (_ ∨ _)) ↔ (d.toNat = 43 ∨ d.toNat = 45)
      omega
  · cases s with
    | nil => intro h; cases h
    | cons d l =>
      intro _
      refine ⟨?_, by simp⟩
      unfold minus
      rw [Bool.eq_iff_iff, List.getD_cons_zero]
      simp only [List.head?_cons, beq_iff_eq, decide_eq_true_eq, Option.some.injEq]
      rw [← UInt8.toNat_inj]
      show _ ↔ d.toNat = 45
      omega
  · unfold signed minus
    simp only [Bool.or_eq_false_iff]
    exact fun h => h.2
  · unfold unsign
    split
    · rw [List.length_drop]; omega
    · exact Nat.le_refl _
theorem refE_bd (l : List UInt8) : ∀ i, (∀ j, j < i → isD (l.getD j 0) = true) → refE l i ≤ 10000009
  | 0, _ => by rw [refE]; exact Nat.zero_le _
  | i + 1, h => by
    have hc := h i (by omega)
    simp only [isD, Bool.and_eq_true, decide_eq_true_eq] at hc
    rw [refE]
    split
    · omega
    · exact refE_bd l i fun j hj => h j (by omega)
/-- what exponent tells -/
def ExpR (s : List UInt8) (r : Value) : Prop := match expP s with
  | none => ∃ x : Int, r = .tuple ⟨[.int .i64 x, .bool false]⟩
  | some (ng, l) => r = .tuple ⟨[.int .i64 ((if ng then -1 else 1) * ((refE l l.length : Nat) : Int)), .bool true]⟩
set_option maxHeartbeats 2000000 in
theorem exponentR_ok (c : UInt8) (s : List UInt8) (w : World) (hs : (c :: s).length ≤ 1000) : Ret Tryz.prog 155 ⟨[S (c :: s)]⟩ w fun r w' => ExpR (c :: s) r ∧ Ext w w' := by
  unfold ExpR
  obtain ⟨n, hn⟩ : ∃ n, n = (c :: s).length := ⟨_, rfl⟩
  have hn1 : n = s.length + 1 := by rw [hn]; rfl
  rw [← hn] at hs
  refine ret_of_G Tryz.func155 rfl Tryz.ntmps155 rfl ?_
  simp only [argEnv]
  refine rn ?_
  refine sBs tb 0 ?_ (hj := fun _ => ⟨rfl, by rw [← hn]; omega⟩)
  rw [List.getD_cons_zero]
  refine rn ?_
  refine sBs tb 0 ?_ (hj := fun _ => ⟨rfl, by rw [← hn]; omega⟩)
  rw [List.getD_cons_zero]
  refine rn ?_
  have hbe : (!decide (((c.toNat : Nat) : Int) = 101) && !decide (((c.toNat : Nat) : Int) = 69)) = decide (¬ (c.toNat = 101 ∨ c.toNat = 69)) := by
    rw [Bool.eq_iff_iff]
    simp only [Bool.and_eq_true, Bool.not_eq_true', decide_eq_false_iff_not, decide_eq_true_eq]
    omega
  rw [hbe]
  by_cases hce : c.toNat = 101 ∨ c.toNat = 69
  rotate_left
  · have he : expP (c :: s) = none := by
      unfold expP
      rw [if_neg]
      rintro (h | h) <;> (injection h with h; subst h; exact hce (by decide))
    rw [he]
    rw [decide_eq_true hce]
    refine rn ?_
    refine G.ret2 rfl rfl rfl rfl rfl ?_
    exact ⟨⟨0, rfl⟩, Ext.refl _⟩
  have he : expP (c :: s) = if unsign s = [] ∨ runD (unsign s) ≠ (unsign s).length then none else some (minus s, unsign s) := by
    unfold expP
    rw [if_pos (hce.imp (fun h => by rw [UInt8.toNat_inj (b := 101) |>.1 h]; rfl) (fun h => by rw [UInt8.toNat_inj (b := 69) |>.1 h]; rfl))]
    rfl
  rw [decide_eq_false (p := ¬ (c.toNat = 101 ∨ c.toNat = 69)) (fun h => h hce)]
  generalize expP (c :: s) = eP at he
  refine rn ?_
  refine GL.cons (Step.sliceSl tb 1 rfl (Op1.of rfl (by first | exact fun _ => rfl | exact fun h => h | exact fun h => bL h | exact fun h => bL (bL h) | exact fun h => bL (bL (bL h)))) (Op1.of rfl (by first | exact fun _ => rfl | exact fun h => h | exact fun h => bL h | exact fun h => bL (bL h) | exact fun h => bL (bL (bL h)))) rfl (fun _ => ⟨rfl, by rw [← hn]; omega⟩) rfl ?_)
  rw [show (c :: s).drop 1 = s from rfl]
  obtain ⟨f1, f2, f3, f4⟩ := sig_facts s
  have hsl : s.length ≤ 1000 := by omega
  clear hbe hn1 hn hs
  refine rn ?_
  refine sBs tb 0 ?_ (hj := by intro h; exact ⟨rfl, by have h : decide ((0 : Int) < ((s.length : Nat) : Int)) = true := h; have := of_decide_eq_true h; omega⟩)
  refine rn ?_
  refine sBs tb 0 ?_ (hj := by intro h; exact ⟨rfl, by have h : (decide ((0 : Int) < ((s.length : Nat) : Int)) && _) = true := h; have := of_decide_eq_true (Bool.and_eq_true_iff.1 h).1; omega⟩)
  refine rn ?_
  rw [f1]
  refine G.join (fun _ : Unit => [(0, none, S (unsign s)), (4, none, .bool (minus s))]) (fun _ W' => W' = w) ?_ ?_
  rotate_left
  · unfold unsign
    cases hs1 : signed s
    · rw [f3 hs1, if_neg (by simp)]
      refine rn ?_
      exact G.met () (by repeat (first | exact Sub.nil _ | refine Sub.cons rfl ?_)) rfl
    · rw [if_pos rfl]
      obtain ⟨g1, g2⟩ := f2 hs1
      refine rn ?_
      refine sBs tb 0 ?_ (hj := fun _ => ⟨rfl, g2⟩)
      refine rn ?_
      rw [g1]
      refine GL.cons (Step.sliceSl tb 1 rfl (Op1.of rfl (by first | exact fun _ => rfl | exact fun h => h | exact fun h => bL h | exact fun h => bL (bL h) | exact fun h => bL (bL (bL h)))) (Op1.of rfl (by first | exact fun _ => rfl | exact fun h => h | exact fun h => bL h | exact fun h => bL (bL h) | exact fun h => bL (bL (bL h)))) rfl (fun _ => ⟨rfl, g2⟩) rfl ?_)
      refine rn ?_
      exact G.met () (by repeat (first | exact Sub.nil _ | refine Sub.cons rfl ?_)) rfl
  rintro _ w rfl
  clear f1 f2 f3 hce
  generalize unsign s = u at he f4 ⊢
  generalize minus s = neg at he ⊢
  refine rn ?_
  refine (G.loop (fun i : Nat => [(0, none, S u), (4, none, .bool neg), (5, none, .int .i64 (refE u i : Nat)), (6, none, .int .i64 i)]) (fun i W => Ext w W ∧ i ≤ u.length ∧ ∀ j, j < i → isD (u.getD j 0) = true) (fun i => u.length - i) 0 (by repeat (first | exact Sub.nil _ | refine Sub.cons rfl ?_)) ⟨Ext.refl _, Nat.zero_le _, fun j hj => by omega⟩ ?_)
  rintro i W ⟨hx, hi, hd⟩
  have hrb := refE_bd u i hd
  refine rn ?_
  first | refine G.condD rfl (fun hc => ?_) (fun hc => ?_) | refine G.condN rfl (fun hc => ?_) (fun hc => ?_) | refine G.cond rfl (fun hc => ?_) (fun hc => ?_)
  · have hlt : i < u.length := by omega
    refine rn ?_
    refine sBs tb i ?_ (hj := fun _ => ⟨rfl, hlt⟩)
    refine sCall c154 (digitR_ok (u.getD i 0) W) ?_
    rintro _ W2 ⟨rfl, hx2⟩
    refine rn ?_
    cases hdi : isD (u.getD i 0)
    · have hr : runD u ≠ u.length := fun h => by
        have := runD_dig (l := u) (i := i) (by omega)
        rw [hdi] at this; cases this
      rw [if_pos (.inr hr)] at he
      subst he
      refine rn ?_
      refine G.ret2 rfl rfl rfl rfl rfl ?_
      exact ⟨⟨0, rfl⟩, hx.trans hx2⟩
    have hd2 : ∀ j, j < i + 1 → isD (u.getD j 0) = true := fun j hj => by
      by_cases hji : j = i
      · rw [hji]; exact hdi
      · exact hd j (by omega)
    have hst : refE u (i + 1) = if refE u i < 1000000 then 10 * refE u i + ((u.getD i 0).toNat - 48) else refE u i := rfl
    have hc : 48 ≤ (u.getD i 0).toNat ∧ (u.getD i 0).toNat ≤ 57 := by simpa [isD] using hdi
    obtain ⟨d, hgd⟩ : ∃ d, u.getD i 0 = d := ⟨_, rfl⟩
    rw [hgd] at hst hc
    (first | refine gl tb ?_ | refine gg tb ?_ | refine ll tb ?_ | refine lg tb ?_)
    refine G.condF rfl ?_
    (first | refine gl tb ?_ | refine gg tb ?_ | refine ll tb ?_ | refine lg tb ?_)
    refine G.join (fun _ : Unit => [(0, none, S u), (4, none, .bool neg), (5, none, .int .i64 (refE u (i + 1) : Nat)), (6, none, .int .i64 i)]) (fun _ W' => W' = W2) ?_ ?_
    rotate_left
    · by_cases hbig : refE u i < 1000000
      · rw [decide_eq_true (p := ((refE u i : Nat) : Int) < 1000000) (by omega)]
        rw [if_pos hbig] at hst
        refine rn ?_
        refine sAd tb (r := ((10 * refE u i : Nat) : Int)) ?_ (hp := (wrap_i64 (n := 10 * ((refE u i : Nat) : Int)) (by omega) (by omega)).trans (by omega))
        refine rn ?_
        refine sBs tb i ?_ (hj := fun _ => ⟨rfl, hlt⟩)
        rw [hgd]
        refine GL.cons (Step.arith (k := .u8) (a := (d.toNat : Int)) (b := 48) (r := ((d.toNat - 48 : Nat) : Int)) rfl (Op1.of rfl (by first | exact fun _ => rfl | exact fun h => h | exact fun h => bL h | exact fun h => bL (bL h) | exact fun h => bL (bL (bL h)))) (Op1.of rfl (by first | exact fun _ => rfl | exact fun h => h | exact fun h => bL h | exact fun h => bL (bL h) | exact fun h => bL (bL (bL h)))) ((Go.Vg.wrap_u8 _).trans (by omega)) rfl ?_)
        refine rn ?_
        refine sCv tb (r := ((d.toNat - 48 : Nat) : Int)) ?_
        refine sAd tb (r := ((refE u (i + 1) : Nat) : Int)) ?_ (hp := (wrap_i64 (n := ((10 * refE u i : Nat) : Int) + ((d.toNat - 48 : Nat) : Int)) (by omega) (by omega)).trans (by omega))
        refine rn ?_
        exact G.met () (by repeat (first | exact Sub.nil _ | refine Sub.cons rfl ?_)) rfl
      · rw [decide_eq_false (p := ((refE u i : Nat) : Int) < 1000000) (by omega)]
        rw [if_neg hbig] at hst
        rw [hst]
        refine rn ?_
        exact G.met () (by repeat (first | exact Sub.nil _ | refine Sub.cons rfl ?_)) rfl
    rintro _ W2 rfl
    refine rn ?_
    refine sAd tb (r := ((i + 1 : Nat) : Int)) ?_
    refine rn ?_
    exact G.lp (x := i) (i + 1) (by repeat (first | exact Sub.nil _ | refine Sub.cons rfl ?_)) ⟨hx.trans hx2, by omega, hd2⟩ (by omega)
  · have hie : i = u.length := by omega
    have hr : runD u = u.length := runD_eq (Nat.le_refl _) (fun j hj => hd j (by omega)) (.inl rfl)
    rw [hie] at hrb
    rw [hie]
    refine rn ?_
    refine G.join (fun _ : Unit => [(0, none, S u), (5, none, .int .i64 ((if neg then -1 else 1) * ((refE u u.length : Nat) : Int)))]) (fun _ W' => W' = W) ?_ ?_
    rotate_left
    · cases neg
      · rw [if_neg (by simp), Int.one_mul]
        refine rn ?_
        exact G.met () (by repeat (first | exact Sub.nil _ | refine Sub.cons rfl ?_)) rfl
      · rw [if_pos rfl]
        refine rn ?_
        refine sNeg ?_ (hr := wrap_i64 (by omega) (by omega))
        rw [show 0 - ((refE u u.length : Nat) : Int) = -1 * ((refE u u.length : Nat) : Int) by omega]
        refine rn ?_
        exact G.met () (by repeat (first | exact Sub.nil _ | refine Sub.cons rfl ?_)) rfl
    rintro _ W rfl
    by_cases h0 : u = []
    · rw [if_pos (.inl h0)] at he
      subst he
      subst h0
      refine rn ?_
      refine G.ret2 rfl rfl rfl rfl rfl ?_
      exact ⟨⟨_, rfl⟩, hx⟩
    · rw [if_neg (by rintro (h | h); exact h0 h; exact h hr)] at he
      subst he
      have hpos := List.length_pos_iff.2 h0
      refine rn ?_
      rw [decide_eq_true (p := (0 : Int) < ((u.length : Nat) : Int)) (by omega)]
      refine rn ?_
      refine G.ret2 rfl rfl rfl rfl rfl ?_
      exact ⟨rfl, hx⟩
end Go.Proofs.YtcngoccnfmhhnaaGreatDoor
end
