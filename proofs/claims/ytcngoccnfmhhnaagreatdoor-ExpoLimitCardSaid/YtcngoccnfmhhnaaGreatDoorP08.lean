/- ExpoLimit: a body of just so many samples is taken, of one more refused. Conditions: none beyond the statement's own. -/
import Derived.Test.YtcngoccnfmhhnaaGreatDoorP07
import Derived.Lib.SmallJoins
import Derived.Test.YtcngoccnfmhhnaaGreatDoorTie
import Derived.Test.YtcngoccnfmhhnaaGreatDoorCards
import Derived.Deep.DeepWitnessRowRef
import Derived.Lib.LaidIn
import Derived.Lib.LaidU8T
import Derived.PinnedBridge
set_option linter.unusedSimpArgs false
set_option linter.unusedVariables false
set_option linter.unusedSectionVars false
section
namespace Go.Nm

theorem dig_fin {b N n j : Nat} {x : Int} {s0 s : List UInt8} (hd : allD s0) (hN : numL s0 0 = N) (hh : s0.head? ≠ some 48) (hr : ReadsT N (x - n) b) (h1 : 1 ≤ n) (hn : n ≤ 18) (hlo : 10 ^ (n - 1) ≤ N) (hhi : N ≤ 10 ^ n) (hx1 : -330 ≤ x) (hx2 : x ≤ 309)
    (hs : s0 = s ++ List.replicate j 48) (hne : s ≠ []) : DigR b s (x - n + s0.length) := by
  have hne0 : s0 ≠ [] := fun e => by rw [e] at hs; exact hne (List.append_eq_nil_iff.1 hs.symm).1
  have hid := trimZ_id hh
  have hp := trim_pos hd (by rw [hid]; exact hne0)
  rw [hid, hN] at hp
  have hlt := numL_lt s0 0 fun c hc => (hd c hc).2
  rw [hN, Nat.zero_add, Nat.one_mul] at hlt
  have a1 : s0.length - 1 ≤ n := (Nat.pow_le_pow_iff_right (by decide : 1 < 10)).1 (Nat.le_trans hp hhi)
  have a2 : n - 1 < s0.length := (Nat.pow_lt_pow_iff_right (by decide : 1 < 10)).1 (Nat.lt_of_le_of_lt hlo hlt)
  have hlen : s0.length = s.length + j := by rw [hs, List.length_append, List.length_replicate]
  refine ⟨fun c hc => hd c (by rw [hs]; exact List.mem_append_left _ hc), hne, ?_, by omega, by omega, by omega, ?_⟩
  · intro e
    apply hh
    rw [hs]
    cases s with
    | nil => exact absurd rfl hne
    | cons c r => simpa using e
  · have hv : N = numL s 0 * 10 ^ j := by rw [← hN, hs, numL_ap, numL_rep]
    rw [hv, readsT_pow] at hr
    rw [show x - n + (s0.length : Int) - s.length = x - n + j by omega]
    exact hr
theorem strip {s0 s : List UInt8} {j : Nat} (hs : s0 = s ++ List.replicate j 48) (h : 1 < s.length) (hc : s.getD (s.length - 1) 0 = 48) : s0 = s.take (s.length - 1) ++ List.replicate (j + 1) 48 ∧ s.take (s.length - 1) ≠ [] := by
  have hlt : s.length - 1 < s.length := by omega
  have e : s = s.take (s.length - 1) ++ [48] := by
    have h1 := List.take_succ_eq_append_getElem hlt
    rw [show s.length - 1 + 1 = s.length by omega, List.take_length] at h1
    rw [List.getD_eq_getElem?_getD, List.getElem?_eq_getElem hlt, Option.getD_some] at hc
    rw [hc] at h1
    exact h1
  refine ⟨?_, fun e2 => ?_⟩
  · rw [List.replicate_succ, ← List.singleton_append, ← List.append_assoc, ← e]
    exact hs
  · have := congrArg List.length e2
    rw [List.length_take, List.length_nil] at this
    omega
end Go.Nm
end
section
open Go Go.Vg Go.RowKit Go.Proofs Go.Proofs.YtcngoccnfmhhnaaGreatDoor
namespace Go.Proofs.YtcngoccnfmhhnaaGreatDoor
open Go.Nm

theorem abs_bits {R : Nat} (s : Bool) (h : R < 2 ^ 63) : bits .andNot .u64 ((R + sgn s : Nat) : Int) 9223372036854775808 = (R : Int) := by
  have hs : sgn s ≤ 2 ^ 63 := by cases s <;> decide
  have hm : (R + sgn s) % 2 ^ 63 = R := by cases s <;> simp only [sgn, if_true, Bool.false_eq_true, if_false] <;> omega
  have h1 : BitVec.ofInt 64 ((R + sgn s : Nat) : Int) = BitVec.ofNat 64 (R + sgn s) := BitVec.ofInt_natCast ..
  have h2 : ~~~ BitVec.ofInt 64 (9223372036854775808 : Int) = BitVec.ofNat 64 (2 ^ 63 - 1) := by decide
  have h3 : (BitVec.ofNat 64 (R + sgn s) &&& BitVec.ofNat 64 (2 ^ 63 - 1)).toNat = R := by
    rw [BitVec.toNat_and, BitVec.toNat_ofNat, BitVec.toNat_ofNat, Nat.mod_eq_of_lt (by omega), Nat.mod_eq_of_lt (by decide), Nat.and_two_pow_sub_one_eq_mod, hm]
  show IntKind.u64.wrap ((BitVec.ofInt 64 ((R + sgn s : Nat) : Int) &&& ~~~ BitVec.ofInt 64 (9223372036854775808 : Int)).toNat : Int) = _
  rw [h1, h2, h3]
  exact wrap_u64 (by omega) (by omega)
theorem sgn_shr {R : Nat} (s : Bool) (h : R < 2 ^ 63) : ((R + sgn s : Nat) : Int) / 2 ^ 63 = if s then 1 else 0 := by
  cases s <;> simp only [sgn, if_true, Bool.false_eq_true, if_false] <;> omega
theorem one_num (a : Option Addr) (l c : Nat) (x : Int) : ∀ z ∈ [Value.slice a l c, .int .i64 x], z.oneCell' = true := by simp [Value.oneCell']
theorem readsB (N : Nat) (x : Int) (b : Nat) : decide (Reads (N * 10 ^ x.toNat * 2 ^ cP) (10 ^ (-x).toNat) b) = true ↔ ReadsT N x b := by
  unfold ReadsT
  exact decide_eq_true_iff
theorem pick_b {A B C : Bool} (h : A = true ∨ B = true) (hc : (!A || (B && C)) = true) : B = true := by
  revert A B C; decide
theorem pick_a {A B C : Bool} (h : A = true ∨ B = true) (hc : (!A || (B && C)) = false) : A = true := by
  revert A B C; decide
theorem nor_b : ∀ {A B : Bool}, (!A && !B) = true → B = false := by decide
theorem nor_no : ∀ {A B : Bool}, (!A && !B) = false → A = true ∨ B = true := by decide
theorem kD_lt {ds : List Nat} (h : ∀ d ∈ ds, d ≤ 9) : ∀ n, n ≤ 18 → kD (ds.take n) + 1 ≤ 10 ^ n
  | 0, _ => by simp [kD]
  | n + 1, hn => by
    have ih := kD_lt h n (by omega)
    by_cases hl : n < ds.length
    · have hd := h _ (List.getElem_mem hl)
      rw [List.take_succ_eq_append_getElem hl, kD_snoc, Nat.pow_succ]
      omega
    · rw [List.take_of_length_le (by omega)]
      rw [List.take_of_length_le (by omega)] at ih
      rw [Nat.pow_succ]
      omega
set_option maxHeartbeats 4000000 in
theorem digits_ok (neg : Bool) (b : Nat) (w : World) (hb : b < 2 ^ 63) :
    Ret Tryz.prog 78 ⟨[.float .f64 (b + sgn neg)]⟩ w fun r w' => (∃ (s : List UInt8) (top : Int), r = .tuple ⟨[S s, .int .i64 top, .bool neg]⟩ ∧ (b = 0 ∨ infB ≤ b → s = [] ∧ top = 0) ∧ (0 < b → b < infB → DigR b s top)) ∧ Ext w w' := by
  have hinf : infB = 9218868437227405312 := by decide
  have hshr := sgn_shr neg hb
  obtain ⟨q, hq⟩ : ∃ q : Int, q = if neg then 1 else 0 := ⟨_, rfl⟩
  rw [← hq] at hshr
  have hqn : decide (q = 1) = neg := by rw [hq]; cases neg <;> rfl
  have hand := abs_bits neg hb
  refine ret_of_G Tryz.func78 rfl Tryz.ntmps78 rfl ?_
  simp only [argEnv]
  refine rn ?_
  refine GL.cons (Step.ext rfl rfl (by repeat (first | exact OpL.nil | refine OpL.cons (Op1.of rfl (by first | exact fun _ => rfl | exact fun h => h | exact fun h => bL h | exact fun h => bL (bL h) | exact fun h => bL (bL (bL h)))) ?_)) (run_fbits Tryz.func73 (by kernel_rfl) (by kernel_rfl) (by kernel_rfl) (by kernel_rfl) (b + sgn neg) _) rfl ?_)
  refine rn ?_
  refine sShr (n := 63) hshr ?_
  refine rn ?_
  rw [hqn]
  refine rn ?_
  refine GL.cons (Step.andNot rfl (Op1.of rfl (by first | exact fun _ => rfl | exact fun h => h | exact fun h => bL h | exact fun h => bL (bL h) | exact fun h => bL (bL (bL h)))) (Op1.of rfl (by first | exact fun _ => rfl | exact fun h => h | exact fun h => bL h | exact fun h => bL (bL h) | exact fun h => bL (bL (bL h)))) hand rfl ?_)
  clear hshr hand hq hqn
  refine rn ?_
  refine G.cond rfl (fun hc => ?_) (fun hc => ?_)
  · have hc' : b = 0 ∨ infB ≤ b := by
      simp only [Bool.or_eq_true, decide_eq_true_eq] at hc; omega
    refine rn ?_
    refine G.ret3 rfl rfl rfl rfl rfl rfl ?_
    exact ⟨⟨[], 0, rfl, fun _ => ⟨rfl, rfl⟩, fun h1 h2 => by omega⟩, Ext.refl _⟩
  have hb0 : 0 < b ∧ b < infB := by
    simp only [Bool.or_eq_false_iff, decide_eq_false_iff_not] at hc; omega
  obtain ⟨hb0, hbi⟩ := hb0
  clear hc
  refine rn ?_
  refine sCall c106 (expansion_ok b w hb0 hbi) ?_
  rintro _ W1 ⟨⟨x, fv, ds, rfl, hfs0, hdl, hd9, hx1, hx2, hlo, hhi, hall⟩, hx01⟩
  have hend : ReadsT (kD ds + 1) (x - 18) b := by
    obtain ⟨R, hR, hK⟩ := hall 18 (Nat.le_refl _)
    rw [List.take_of_length_le (by omega)] at hK
    exact dig_end hb0 hlo hR hK
  have hfirst : ∀ n, 1 ≤ n → n ≤ 18 → 10 ^ (n - 1) ≤ kD (ds.take n) := fun n h1 h2 => by
    obtain ⟨R, hR, hK⟩ := hall n h2
    exact dig_first h1 hlo hR hK
  have hkd : ∀ n, n ≤ 18 → kD (ds.take n) + 1 ≤ 10 ^ n := kD_lt hd9
  clear hall hlo hhi
  have hdl2 : (ds.map i64C).length = 18 := by rw [List.length_map]; exact hdl
  refine rn ?_
  refine (G.loop (fun z : Nat × Value => [(6, none, .bool neg), (7, none, .int .u64 b), (8, none, fv), (9, none, .int .i64 x), (10, none, z.2), (11, none, .int .i64 z.1)]) (fun z W => Ext w W ∧ Ext W1 W ∧ 1 ≤ z.1 ∧ z.1 ≤ 18 ∧ ∃ l, Rt W z.2 l ∧ vL 10000 l = kD (ds.take (z.1 - 1)) ∧ l.length ≤ 20 * z.1) (fun z => 19 - z.1) (1, .slice none 0 0) (by repeat (first | exact Sub.nil _ | refine Sub.cons rfl ?_)) ⟨hx01, Ext.refl _, by decide, by decide, [], Rt.nil _, rfl, by decide⟩ ?_)
  rintro ⟨n, kv⟩ W ⟨hxw, hxW, hn1, hn18, l, hk, hkv, hkl⟩
  simp only at hn1 hn18 hk hkv hkl ⊢
  have hfs := hfs0.to hxW
  refine rn ?_
  rw [hdl2]
  refine rn ?_
  first | refine G.condD rfl (fun hc => ?_) (fun hc => ?_) | refine G.condN rfl (fun hc => ?_) (fun hc => ?_) | refine G.cond rfl (fun hc => ?_) (fun hc => ?_)
  rotate_left
  · omega
  have hlt : n - 1 < ds.length := by omega
  have hget : (ds.map i64C)[n - 1]? = some (i64C ds[n - 1]) := by simp [hlt]
  have hdm := hd9 _ (List.getElem_mem hlt)
  refine rn ?_
  refine sAd tb (r := ((n - 1 : Nat) : Int)) ?_ (hp := (wrap_i64 (n := ((n : Nat) : Int) - 1) (by omega) (by omega)).trans (by omega))
  try (first | refine gl tb ?_ | refine gg tb ?_ | refine ll tb ?_ | refine lg tb ?_); repeat ((first | refine G.condT rfl ?_ | refine G.condF rfl ?_ | refine sFa tb ?_ | refine sLd tb ?_ | refine sLa tb ?_ | refine sLen tb ?_ | refine sFd tb ?_ | refine sBd tb ?_ | refine sIa tb (n - 1) ?_); try (first | refine gl tb ?_ | refine gg tb ?_ | refine ll tb ?_ | refine lg tb ?_))
  refine sCall c107 (timesO_ok kv l 10 ds[n - 1] W hk (by omega) (by decide) (by decide) (by omega)) ?_
  rintro kv2 W2 ⟨⟨l2, hw2, hn2, hv2, hl2⟩, hx2'⟩
  have hk2 : Rt W2 kv2 l2 := ⟨hw2.sli, hn2⟩
  clear hw2 hn2
  have hkv2 : vL 10000 l2 = kD (ds.take n) := by
    have h1 := List.take_succ_eq_append_getElem hlt
    rw [show n - 1 + 1 = n by omega] at h1
    rw [hv2, hkv, h1, kD_snoc]; omega
  have hl2' : l2.length ≤ 20 * (n + 1) := by omega
  clear hv2 hkv hk hkl hl2 hget hdm
  have hF := hfirst n hn1 hn18
  have hK := hkd n hn18
  obtain ⟨N, hN⟩ : ∃ N, N = kD (ds.take n) := ⟨_, rfl⟩
  have hendN : n = 18 → ReadsT (N + 1) (x - n) b := fun e => by
    subst e
    rw [hN, List.take_of_length_le (by omega)]
    exact hend
  rw [← hN] at hkv2 hF hK
  obtain ⟨ka, kc, rfl, -⟩ := hk2.sl.len
  have hxw2 := hxw.trans hx2'
  have hxW2 := hxW.trans hx2'
  refine rn ?_
  refine sAd tb (r := x - n) ?_ (hp := wrap_i64 (by omega) (by omega))
  refine rn ?_
  refine sCall c108 (plusR_ok _ l2 W2 hk2 (by omega)) ?_
  rintro pv W3 ⟨⟨o, ho, hov, hol⟩, hx3⟩
  have hk3 := hk2.to hx3
  rw [hkv2] at hov
  obtain ⟨pa, pc, rfl, -⟩ := ho.sl.len
  refine rn ?_
  refine sAd tb (r := x - n) ?_ (hp := wrap_i64 (by omega) (by omega))
  refine rn ?_
  refine sAl tb (fun W4 hb12 hs4 hx4 => ?_)
  refine sAl tb (fun W5 hb13 hs5 hx5 => ?_)
  have hb12 := hb12.to hx5
  refine sSt tb (fun W6 hb12' hw6 => ?_) (vs := [.slice ka (l2.map i64C).length kc, .int .i64 (x - n)]) (hv := rfl) (h1 := one_num _ _ _ _)
  have hb13 := hb13.wr hw6 (by omega)
  refine sSt tb (fun W7 hb13' hw7 => ?_) (vs := [.slice pa (o.map i64C).length pc, .int .i64 (x - n)]) (hv := rfl) (h1 := one_num _ _ _ _)
  have hb12 := hb12'.wr hw7 (by omega)
  have hb13 := hb13'
  have hx47 : Ext W3 W7 := Below.wr (Below.wr (hx4.trans hx5) hw6 (by omega)) hw7 (by omega)
  have hk7 := hk3.to hx47
  have ho7 := ho.to hx47
  have hxw7 := (hxw2.trans hx3).trans hx47
  have hxW7 := (hxW2.trans hx3).trans hx47
  clear hb12' hb13' hw6 hw7 hx4 hx5 hs4 hs5 hk3 hk2 ho hxw2 hxW2
  refine rn ?_
  obtain ⟨A, hA⟩ : ∃ A : Bool, A = decide (Reads (N * 10 ^ (x - ↑n).toNat * 2 ^ cP) (10 ^ (-(x - ↑n)).toNat) b) := ⟨_, rfl⟩
  obtain ⟨B, hB⟩ : ∃ B : Bool, B = decide (Reads ((N + 1) * 10 ^ (x - ↑n).toNat * 2 ^ cP) (10 ^ (-(x - ↑n)).toNat) b) := ⟨_, rfl⟩
  have hrA : ∀ W, Ext W7 W → Ret Tryz.prog 109 ⟨[.int .u64 b, .agg ⟨[.slice ka (l2.map i64C).length kc, .int .i64 (x - n)]⟩]⟩ W fun r w' => r = .bool A ∧ Ext W w' := fun W hW => by
    rw [hA, ← hkv2]
    exact reads_ok b _ l2 (x - n) W hb0 hbi (hk7.to hW) (by omega) (by omega) (by omega)
  have hrB : ∀ W, Ext W7 W → Ret Tryz.prog 109 ⟨[.int .u64 b, .agg ⟨[.slice pa (o.map i64C).length pc, .int .i64 (x - n)]⟩]⟩ W fun r w' => r = .bool B ∧ Ext W w' := fun W hW => by
    rw [hB, ← hov]
    exact reads_ok b _ o (x - n) W hb0 hbi (ho7.to hW) (by omega) (by omega) (by omega)
  have hAe : A = true ↔ ReadsT N (x - n) b := by rw [hA]; exact readsB _ _ _
  have hBe : B = true ↔ ReadsT (N + 1) (x - n) b := by rw [hB]; exact readsB _ _ _
  clear hA hB
  refine rn ?_
  refine G.regionM [(0, true), (1, true), (3, true), (4, true), (2, false), (5, false), (6, true), (7, true)] (Ext W7) (by kernel_rfl) (by kernel_rfl) rfl mixed (Ext.drew W7) rfl ?_
  refine rd ?_
  refine GM.eff (Step.callX rfl rfl (by repeat (first | exact OpL.nil | refine OpL.cons (Op1.of rfl (by first | exact fun _ => rfl | exact fun h => h | exact fun h => bL h | exact fun h => bL (bL h) | exact fun h => bL (bL (bL h)))) ?_)) c109 rfl (fun hc => hrA W7.drew (Ext.drew W7)) ?_)
  intro W8 hx8
  have hx8 := (Ext.drew W7).trans hx8
  refine ⟨hx8, ?_⟩
  refine rd ?_
  refine GM.eff (Step.callX rfl rfl (by repeat (first | exact OpL.nil | refine OpL.cons (Op1.of rfl (by first | exact fun _ => rfl | exact fun h => h | exact fun h => bL h | exact fun h => bL (bL h) | exact fun h => bL (bL (bL h)))) ?_)) c109 rfl (fun hc => hrB W8 hx8) ?_)
  intro W9 hx9
  have hx9 := hx8.trans hx9
  refine ⟨hx9, ?_⟩
  refine rd ?_
  refine GM.nil ?_
  have hb12 := hb12.to hx9
  have hb13 := hb13.to hx9
  have hk9 := hk7.to hx9
  have ho9 := ho7.to hx9
  have hxw9 := hxw7.trans hx9
  have hxW9 := hxW7.trans hx9
  clear hx9 hx8 hxw7 hxW7 hk7 ho7 hx47 hrA hrB
  refine rn ?_
  refine G.cond rfl (fun hc => ?_) (fun hc => ?_)
  · have hB : B = false := nor_b hc
    have hn18' : n < 18 := by
      refine Decidable.byContradiction fun h => ?_
      have := hendN (by omega)
      rw [← hBe, hB] at this
      cases this
    refine rn ?_
    refine sAd tb ?_
    refine rn ?_
    exact G.lp (x := (n, kv)) (n + 1, .slice ka (l2.map i64C).length kc) (by repeat (first | exact Sub.nil _ | refine Sub.cons rfl ?_)) ⟨hxw9, hxW9, by omega, hn18', l2, hk9, by show vL 10000 l2 = kD (ds.take (n + 1 - 1)); rw [hkv2, hN]; rfl, hl2'⟩ (by show 19 - (n + 1) < 19 - n; omega)
  have hAB : A = true ∨ B = true := nor_no hc
  clear hc hendN hend hfirst hkd hdl2 hfs hfs0 hd9 hdl hx01
  refine rn ?_
  refine sAl tb (fun W10 hb16 hs10 hx10 => ?_)
  refine sSt tb (fun W11 hb16' hw11 => ?_) (vs := [.slice ka (l2.map i64C).length kc, .int .i64 (x - n)]) (hv := rfl) (h1 := one_num _ _ _ _)
  have hx911 : Ext W9 W11 := Below.wr hx10 hw11 (Nat.le_refl _)
  have hk11 := hk9.to hx911
  have ho11 := ho9.to hx911
  have hb12 := hb12.to hx911
  have hb13 := hb13.to hx911
  have hxw11 := hxw9.trans hx911
  obtain ⟨g, hg⟩ : ∃ g, g = W9.heap.size := ⟨_, rfl⟩
  rw [← hg] at hb16'
  have hgw : w.heap.size ≤ g := by have := hxw9.size; omega
  clear hb16 hw11 hx10 hs10
  refine rn ?_
  rw [← hg]
  refine sCall c110 (nearer_ok b _ _ l2 o (x - n) (x - n) W11 hbi hk11 ho11 (by omega) (by omega) (by omega) (by omega)) ?_
  rintro _ W12 ⟨⟨z, rfl⟩, hx12⟩
  have hk12 := hk11.to hx12
  have ho12 := ho11.to hx12
  have hb12 := hb12.to hx12
  have hb13 := hb13.to hx12
  have hb16 := hb16'.to hx12
  have hxw12 := hxw11.trans hx12
  have hne : l2 ≠ [] := by
    intro e
    rw [e] at hkv2
    have : 0 < 10 ^ (n - 1) := Nat.pow_pos (by decide)
    have h0 : vL 10000 [] = 0 := rfl
    omega
  obtain ⟨d0, l3, hl3⟩ := List.exists_cons_of_ne_nil hne
  have hget : (l2.map i64C)[0]? = some (i64C d0) := by rw [hl3]; rfl
  have hks := hk12.sl
  have hx912 := hx911.trans hx12
  refine rn ?_
  refine sIa tb 0 ?_ (hj := fun _ => ⟨rfl, by rw [hl3]; simp⟩)
  refine rn ?_
  refine sRem (r := ((d0 % 2 : Nat) : Int)) rfl ?_
  refine rn ?_
  refine G.join (fun _ : Unit => [(6, none, .bool neg), (9, none, .int .i64 x), (11, none, .int .i64 n), (16, none, ptr g)]) (fun _ W => Ext w W ∧ ∃ (zv : Value) (zl : List Nat) (M : Nat), Bx W g [zv, .int .i64 (x - n)] ∧ Rt W zv zl ∧ zl.length ≤ 1000 ∧ vL 10000 zl = M ∧ ReadsT M (x - n) b ∧ 10 ^ (n - 1) ≤ M ∧ M ≤ 10 ^ n) ?_ ?_
  rotate_left
  · refine G.cond rfl (fun hc => ?_) (fun hc => ?_)
    · have hB : B = true := pick_b hAB hc
      have hlt13 := hb13.lt
      refine rn ?_
      refine sSt tb (fun W13 hb16' hw13 => ?_) (vs := [.slice pa (o.map i64C).length pc, .int .i64 (x - n)]) (hv := rfl) (h1 := one_num _ _ _ _)
      have hx1213 : Ext w W13 := Below.wr hxw12 hw13 hgw
      refine rn ?_
      exact G.met () (by repeat (first | exact Sub.nil _ | refine Sub.cons rfl ?_)) ⟨hx1213, _, o, N + 1, hb16', ⟨ho9.sl.blk fun b' hb' _ => (hw13.block b' (by omega)).trans (hx912.block b' hb'), ho9.nr⟩, by omega, hov, hBe.1 hB, by omega, hK⟩
    · have hA : A = true := pick_a hAB hc
      refine rn ?_
      exact G.met () (by repeat (first | exact Sub.nil _ | refine Sub.cons rfl ?_)) ⟨hxw12, _, l2, N, hb16, hk12, by omega, hkv2, hAe.1 hA, hF, by omega⟩
  clear hb12 hb13 hb16 hb16' hk9 ho9 hk11 ho11 hk12 ho12 hks hxw9 hxW9 hxw11 hxw12 hx911 hx912 hx12 hAB hAe hBe hkv2 hov hol hl2' hl3 hget hne hN hF hK
  rintro _ W ⟨hxw, zv, zl, M, hbz, hz, hzl, hzv, hrd, hM1, hM2⟩
  refine rn ?_
  refine sCall c111 (textR_ok zv zl W hz (by omega)) ?_
  rintro _ W2 ⟨⟨s0, rfl, hs0d, hs0v, hs0h, hs0l⟩, hx2⟩
  have hxw := hxw.trans hx2
  rw [hzv] at hs0v
  have hzne : zl ≠ [] := by
    intro e
    rw [e] at hzv
    have : 0 < 10 ^ (n - 1) := Nat.pow_pos (by decide)
    have h0 : vL 10000 [] = 0 := rfl
    omega
  obtain ⟨hs0n, hs0h⟩ := hs0h hzne
  have hs0l : s0.length ≤ 4000 := by omega
  clear hz hbz hzl hzv hx2 hzne
  refine rn ?_
  refine sAd tb (r := x - n) ?_ (hp := wrap_i64 (by omega) (by omega))
  refine rn ?_
  refine sAd tb (r := x - n + s0.length) ?_ (hp := wrap_i64 (by omega) (by omega))
  refine rn ?_
  refine (G.loop (fun s : List UInt8 => [(6, none, .bool neg), (18, none, S s), (19, none, .int .i64 (x - n + s0.length))]) (fun s W => Ext w W ∧ s ≠ [] ∧ ∃ j, s0 = s ++ List.replicate j 48) (fun s => s.length) s0 (by repeat (first | exact Sub.nil _ | refine Sub.cons rfl ?_)) ⟨hxw, hs0n, 0, by simp⟩ ?_)
  clear hxw
  rintro s W3 ⟨hx3, hsn, j, hsj⟩
  have hsl : 0 < s.length := List.length_pos_iff.2 hsn
  have hsl0 : s.length ≤ 4000 := by rw [hsj, List.length_append] at hs0l; omega
  refine rn ?_
  refine sAd tb (r := ((s.length - 1 : Nat) : Int)) ?_ (hp := (wrap_i64 (n := ((s.length : Nat) : Int) - 1) (by omega) (by omega)).trans (by omega))
  refine sBs tb (s.length - 1) ?_ (hj := fun _ => ⟨rfl, by omega⟩)
  refine rn ?_
  refine G.cond rfl (fun hc => ?_) (fun hc => ?_)
  · simp only [Bool.and_eq_true, decide_eq_true_eq] at hc
    obtain ⟨e1, e2⟩ := strip hsj (by omega) (by have h := hc.2; rw [← UInt8.toNat_inj]; show _ = 48; omega)
    refine rn ?_
    refine sAd tb (r := ((s.length - 1 : Nat) : Int)) ?_ (hp := (wrap_i64 (n := ((s.length : Nat) : Int) - 1) (by omega) (by omega)).trans (by omega))
    refine GL.cons (Step.sliceSh tb (s.length - 1) rfl (Op1.of rfl (by first | exact fun _ => rfl | exact fun h => h | exact fun h => bL h | exact fun h => bL (bL h) | exact fun h => bL (bL (bL h)))) (Op1.of rfl (by first | exact fun _ => rfl | exact fun h => h | exact fun h => bL h | exact fun h => bL (bL h) | exact fun h => bL (bL (bL h)))) rfl (fun _ => ⟨rfl, by omega⟩) rfl ?_)
    refine rn ?_
    exact G.lp (x := s) (s.take (s.length - 1)) (by repeat (first | exact Sub.nil _ | refine Sub.cons rfl ?_)) ⟨hx3, e2, j + 1, e1⟩ (by rw [List.length_take]; omega)
  · refine rn ?_
    refine G.ret3 rfl rfl rfl rfl rfl rfl ?_
    exact ⟨⟨s, _, rfl, fun h => by omega, fun _ _ => dig_fin hs0d hs0v hs0h hrd hn1 hn18 hM1 hM2 hx1 hx2 hsj hsn⟩, hx3⟩
end Go.Proofs.YtcngoccnfmhhnaaGreatDoor
end
section
namespace Go.Nm
open Go.Vg Ieee

theorem read_none (s : Bool) {R : Nat} (h1 : infB < R) (h2 : R < 2 ^ 63) : ∃ t f, double.read (R + sgn s) = Datum.nan t f := by
  have e := inf_eq
  have hw : double.signWeight = 2 ^ 63 := by decide
  have hb : double.binade = 2 ^ 52 := by decide
  have hi : double.infRung = 9218868437227405312 := by decide
  have hm : (R + sgn s) % 2 ^ 63 = R := by cases s <;> simp only [sgn, if_true, Bool.false_eq_true, if_false] <;> omega
  unfold Format.read
  simp only [hw, hb, hi, hm]
  rw [if_neg (by omega), if_neg (by omega), if_neg (by omega)]
  exact ⟨_, _, rfl⟩
theorem neq_none (s : Bool) {R : Nat} (h1 : infB < R) (h2 : R < 2 ^ 63) : fcmpB .neq (R + sgn s) (R + sgn s) = some true := (nan_cmp (read_none s h1 h2) _).2.2.2
theorem neq_real (s : Bool) {R : Nat} (h : R ≤ infB) : fcmpB .neq (R + sgn s) (R + sgn s) = some false := by
  refine self_neq fun t f hr => ?_
  by_cases h1 : R < infB
  · rw [read_rung s h1] at hr; cases hr
  · obtain rfl : R = infB := by omega
    rw [read_inf] at hr; cases hr
theorem neq_nanB : fcmpB .neq nanB nanB = some true := (nan_cmp read_nan _).2.2.2
/-- a float as it is written -/
def VOk (v : Nat) : Prop := v = nanB ∨ ∃ (R : Nat) (s : Bool), R ≤ infB ∧ v = R + sgn s
theorem float_cases {v : Nat} (h : v < 2 ^ 64) : ∃ (R : Nat) (s : Bool), R < 2 ^ 63 ∧ v = R + sgn s := by
  by_cases hv : v < 2 ^ 63
  · exact ⟨v, false, hv, rfl⟩
  · exact ⟨v - 2 ^ 63, true, by omega, by show v = v - 2 ^ 63 + 2 ^ 63; omega⟩
end Go.Nm
end
section
open Go Go.Vg Go.RowKit Go.Proofs Go.Proofs.YtcngoccnfmhhnaaGreatDoor
namespace Go.Proofs.YtcngoccnfmhhnaaGreatDoor
open Go.Nm

theorem digT (k : Nat) (hk : k ≤ 1000) : allD (Num.digF 3 k) ∧ numL (Num.digF 3 k) 0 = k ∧ Num.digF 3 k ≠ [] ∧ (Num.digF 3 k).length ≤ 4 :=
  ⟨(digF_val 3 k (by omega)).2, (digF_val 3 k (by omega)).1, digF_ne 3 k, Num.digF_len 3 k⟩
set_option maxHeartbeats 4000000 in
theorem textF_ok (v : Nat) (w : World) (hv : VOk v) :
    Ret Tryz.prog 45 ⟨[.float .f64 v]⟩ w fun r w' => (∃ s, r = S s ∧ TextR v s) ∧ Ext w w' := by
  rcases hv with rfl | ⟨b, neg, hb, rfl⟩
  · (refine ret_of_G Tryz.func45 rfl Tryz.ntmps45 rfl ?_; simp only [argEnv])
    refine rn ?_
    refine GL.cons (Step.fcmp rfl (Op1.of rfl (by first | exact fun _ => rfl | exact fun h => h | exact fun h => bL h | exact fun h => bL (bL h) | exact fun h => bL (bL (bL h)))) (Op1.of rfl (by first | exact fun _ => rfl | exact fun h => h | exact fun h => bL h | exact fun h => bL (bL h) | exact fun h => bL (bL (bL h)))) neq_nanB rfl ?_)
    refine rn ?_
    refine G.ret1 rfl rfl rfl rfl ?_
    exact ⟨⟨_, rfl, text_nan⟩, Ext.refl _⟩
  have hinf : infB = 9218868437227405312 := by decide
  have hand := abs_bits neg (R := b) (by omega)
  refine ret_of_G Tryz.func45 rfl Tryz.ntmps45 rfl ?_
  simp only [argEnv]
  refine rn ?_
  refine GL.cons (Step.fcmp rfl (Op1.of rfl (by first | exact fun _ => rfl | exact fun h => h | exact fun h => bL h | exact fun h => bL (bL h) | exact fun h => bL (bL (bL h)))) (Op1.of rfl (by first | exact fun _ => rfl | exact fun h => h | exact fun h => bL h | exact fun h => bL (bL h) | exact fun h => bL (bL (bL h)))) (neq_real neg hb) rfl ?_)
  refine rn ?_
  refine sCall c78 (digits_ok neg b w (by omega)) ?_
  rintro _ W1 ⟨⟨d, top, rfl, hd0, hd1⟩, hx1⟩
  refine rn ?_
  refine G.join (fun sg : List UInt8 => [(0, none, .float .f64 (b + sgn neg)), (3, none, S d), (4, none, .int .i64 top), (5, none, .bool neg), (6, none, S sg)]) (fun sg W => W1 = W ∧ sg = if neg then [45] else []) ?_ ?_
  rotate_left
  · cases neg
    · refine rn ?_
      exact G.met [] (by repeat (first | exact Sub.nil _ | refine Sub.cons rfl ?_)) ⟨rfl, rfl⟩
    · refine rn ?_
      exact G.met [45] (by repeat (first | exact Sub.nil _ | refine Sub.cons rfl ?_)) ⟨rfl, rfl⟩
  rintro sg _ ⟨rfl, hsg⟩
  refine rn ?_
  refine GL.cons (Step.ext rfl rfl (by repeat (first | exact OpL.nil | refine OpL.cons (Op1.of rfl (by first | exact fun _ => rfl | exact fun h => h | exact fun h => bL h | exact fun h => bL (bL h) | exact fun h => bL (bL (bL h)))) ?_)) (run_fbits Tryz.func73 (by kernel_rfl) (by kernel_rfl) (by kernel_rfl) (by kernel_rfl) (b + sgn neg) _) rfl ?_)
  refine rn ?_
  refine GL.cons (Step.andNot rfl (Op1.of rfl (by first | exact fun _ => rfl | exact fun h => h | exact fun h => bL h | exact fun h => bL (bL h) | exact fun h => bL (bL (bL h)))) (Op1.of rfl (by first | exact fun _ => rfl | exact fun h => h | exact fun h => bL h | exact fun h => bL (bL h) | exact fun h => bL (bL (bL h)))) hand rfl ?_)
  refine rn ?_
  first | refine G.condD rfl (fun hc => ?_) (fun hc => ?_) | refine G.condN rfl (fun hc => ?_) (fun hc => ?_) | refine G.cond rfl (fun hc => ?_) (fun hc => ?_)
  · have hbe : b = infB := by omega
    subst hbe
    cases neg
    · refine rn ?_
      refine G.ret1 rfl rfl rfl rfl ?_
      exact ⟨⟨_, rfl, text_inf false⟩, hx1⟩
    · refine rn ?_
      refine G.ret1 rfl rfl rfl rfl ?_
      exact ⟨⟨_, rfl, text_inf true⟩, hx1⟩
  have hbi : b < infB := by omega
  clear hand
  refine rn ?_
  first | refine G.condD rfl (fun hc => ?_) (fun hc => ?_) | refine G.condN rfl (fun hc => ?_) (fun hc => ?_) | refine G.cond rfl (fun hc => ?_) (fun hc => ?_)
  · have hb0 : b = 0 := Decidable.byContradiction fun h => (hd1 (by omega) hbi).ne hc
    subst hb0
    have hsl : sg.length ≤ 1 := by rw [hsg]; split <;> decide
    refine rn ?_
    refine sCat tb ?_
    refine rn ?_
    refine G.ret1 rfl rfl rfl rfl ?_
    refine ⟨⟨_, rfl, ?_⟩, hx1⟩
    rw [hsg, Nat.zero_add]
    exact text_zero neg
  have hb0 : 0 < b := Nat.pos_of_ne_zero fun h => hc (hd0 (.inl h)).1
  have hD := hd1 hb0 hbi
  have hsl : sg.length ≤ 1 := by rw [hsg]; split <;> decide
  have hlaw : ∀ t, allD t → t ≠ [] → t.length ≤ 20 → numL t 0 = (top - 1).natAbs → TextR (b + sgn neg) (sg ++ bodyP d top t) := by
    intro t h1 h2 h3 h4
    rw [hsg]
    exact text_law hb0 hbi hD h1 h2 h3 h4
  have hdl := hD.len
  have hdn : 0 < d.length := List.length_pos_iff.2 hD.ne
  have hlo := hD.lo
  have hhi := hD.hi
  clear hd0 hd1 hD hsg hb
  refine rn ?_
  refine G.cond rfl (fun hc2 => ?_) (fun hc2 => ?_)
  · have hsc : top < -5 ∨ 21 < top := by simpa only [Bool.or_eq_true, decide_eq_true_eq] using hc2
    refine rn ?_
    refine GL.cons (Step.sliceSh tb 1 rfl (Op1.of rfl (by first | exact fun _ => rfl | exact fun h => h | exact fun h => bL h | exact fun h => bL (bL h) | exact fun h => bL (bL (bL h)))) (Op1.of rfl (by first | exact fun _ => rfl | exact fun h => h | exact fun h => bL h | exact fun h => bL (bL h) | exact fun h => bL (bL (bL h)))) rfl (fun _ => ⟨rfl, by omega⟩) rfl ?_)
    refine sCat tb ?_ (hk := fun _ => by simp only [List.length_append, List.length_take, List.length_drop, List.length_cons, List.length_nil, List.length_replicate]; omega)
    refine rn ?_
    refine G.join (fun u : List UInt8 => [(4, none, .int .i64 top), (7, none, S u)]) (fun u W => W1 = W ∧ u = sg ++ d.take 1 ++ (if 1 < d.length then 46 :: d.drop 1 else [])) ?_ ?_
    rotate_left
    · first | refine G.condD rfl (fun hc => ?_) (fun hc => ?_) | refine G.condN rfl (fun hc => ?_) (fun hc => ?_) | refine G.cond rfl (fun hc => ?_) (fun hc => ?_)
      · rw [if_pos (show 1 < d.length by omega)]
        refine rn ?_
        refine sCat tb ?_ (hk := fun _ => by simp only [List.length_append, List.length_take, List.length_drop, List.length_cons, List.length_nil, List.length_replicate]; omega)
        refine rn ?_
        refine GL.cons (Step.sliceSl tb 1 rfl (Op1.of rfl (by first | exact fun _ => rfl | exact fun h => h | exact fun h => bL h | exact fun h => bL (bL h) | exact fun h => bL (bL (bL h)))) (Op1.of rfl (by first | exact fun _ => rfl | exact fun h => h | exact fun h => bL h | exact fun h => bL (bL h) | exact fun h => bL (bL (bL h)))) rfl (fun _ => ⟨rfl, by omega⟩) rfl ?_)
        refine sCat tb ?_ (hk := fun _ => by simp only [List.length_append, List.length_take, List.length_drop, List.length_cons, List.length_nil, List.length_replicate]; omega)
        refine rn ?_
        exact G.met (sg ++ d.take 1 ++ [46] ++ d.drop 1) (by repeat (first | exact Sub.nil _ | refine Sub.cons rfl ?_)) ⟨rfl, by simp⟩
      · rw [if_neg (show ¬ 1 < d.length by omega)]
        refine rn ?_
        exact G.met (sg ++ d.take 1) (by repeat (first | exact Sub.nil _ | refine Sub.cons rfl ?_)) ⟨rfl, by simp⟩
    rintro u _ ⟨rfl, hu⟩
    have hul : u.length ≤ 40 := by
      rw [hu]
      simp only [List.length_append, List.length_take]
      have e : (if 1 < d.length then (46 : UInt8) :: d.drop 1 else []).length ≤ 20 := by
        split
        · simp only [List.length_cons, List.length_drop]; omega
        · exact Nat.zero_le _
      omega
    refine rn ?_
    refine sAd tb (r := top - 1) ?_ (hp := wrap_i64 (by omega) (by omega))
    refine rn ?_
    refine G.join (fun m : List UInt8 => [(7, none, S u), (8, none, .int .i64 ((top - 1).natAbs : Nat)), (9, none, S m)]) (fun m W => W1 = W ∧ m = [if top - 1 < 0 then 45 else 43]) ?_ ?_
    rotate_left
    · first | refine G.condD rfl (fun hc => ?_) (fun hc => ?_) | refine G.condN rfl (fun hc => ?_) (fun hc => ?_) | refine G.cond rfl (fun hc => ?_) (fun hc => ?_)
      · rw [if_pos hc, show (((top - 1).natAbs : Nat) : Int) = 0 - (top - 1) by omega]
        refine rn ?_
        refine sNeg ?_
        refine rn ?_
        exact G.met [45] (by repeat (first | exact Sub.nil _ | refine Sub.cons rfl ?_)) ⟨rfl, rfl⟩
      · rw [if_neg hc, show (((top - 1).natAbs : Nat) : Int) = top - 1 by omega]
        refine rn ?_
        exact G.met [43] (by repeat (first | exact Sub.nil _ | refine Sub.cons rfl ?_)) ⟨rfl, rfl⟩
    rintro m _ ⟨rfl, hm⟩
    have hml : m.length = 1 := by rw [hm]; rfl
    obtain ⟨k, hk⟩ : ∃ k, k = (top - 1).natAbs := ⟨_, rfl⟩
    have hk2 : k ≤ 1000 := by omega
    rw [← hk]
    have hpl := Num.plain_ok 3 (k : Int) (by rw [Int.natAbs_natCast]; omega) (by omega) (by omega) (by omega)
    rw [Int.natAbs_natCast] at hpl
    obtain ⟨t1, t2, t3, t4⟩ := digT k hk2
    generalize Num.digF 3 k = t at hpl t1 t2 t3 t4
    refine rn ?_
    refine sCall c79 (hpl W1) ?_
    rintro _ W2 ⟨rfl, hx2⟩
    have hx12 := hx1.trans hx2
    refine rn ?_
    refine G.join (fun t' : List UInt8 => [(7, none, S u), (9, none, S m), (10, none, S t')]) (fun t' W => W2 = W ∧ allD t' ∧ t' ≠ [] ∧ t'.length ≤ 5 ∧ numL t' 0 = k) ?_ ?_
    rotate_left
    · first | refine G.condD rfl (fun hc => ?_) (fun hc => ?_) | refine G.condN rfl (fun hc => ?_) (fun hc => ?_) | refine G.cond rfl (fun hc => ?_) (fun hc => ?_)
      · refine rn ?_
        refine sCat tb ?_ (hk := fun _ => by simp only [List.length_append, List.length_take, List.length_drop, List.length_cons, List.length_nil, List.length_replicate]; omega)
        refine rn ?_
        exact G.met ([48] ++ t) (by repeat (first | exact Sub.nil _ | refine Sub.cons rfl ?_)) ⟨rfl, allD_ap (allD_rep 1) t1, by simp, by simp only [List.length_append, List.length_cons, List.length_nil]; omega, by rw [numL_ap]; exact t2⟩
      · refine rn ?_
        exact G.met t (by repeat (first | exact Sub.nil _ | refine Sub.cons rfl ?_)) ⟨rfl, t1, t3, by omega, t2⟩
    clear t1 t2 t3 t4 hpl
    rintro t' _ ⟨rfl, t1, t2, t3, t4⟩
    refine rn ?_
    refine sCat tb ?_ (hk := fun _ => by simp only [List.length_append, List.length_take, List.length_drop, List.length_cons, List.length_nil, List.length_replicate]; omega)
    refine rn ?_
    refine sCat tb ?_ (hk := fun _ => by simp only [List.length_append, List.length_take, List.length_drop, List.length_cons, List.length_nil, List.length_replicate]; omega)
    refine rn ?_
    refine sCat tb ?_ (hk := fun _ => by simp only [List.length_append, List.length_take, List.length_drop, List.length_cons, List.length_nil, List.length_replicate]; omega)
    refine rn ?_
    refine G.ret1 rfl rfl rfl rfl ?_
    refine ⟨⟨_, rfl, ?_⟩, hx12⟩
    have hb := hlaw t' t1 t2 (by omega) (by rw [t4, hk])
    have e : u ++ [101] ++ m ++ t' = sg ++ bodyP d top t' := by
      unfold bodyP
      rw [if_pos hsc, hu, hm]
      simp
    rw [e]
    exact hb
  have hns : ¬ (top < -5 ∨ 21 < top) := by
    simp only [Bool.or_eq_false_iff, decide_eq_false_iff_not] at hc2; omega
  have hlaw2 : TextR (b + sgn neg) (sg ++ bodyP d top (Num.digF 3 (top - 1).natAbs)) := by
    obtain ⟨t1, t2, t3, t4⟩ := digT (top - 1).natAbs (by omega)
    exact hlaw _ t1 t3 (by omega) t2
  clear hlaw hc2
  unfold bodyP at hlaw2
  rw [if_neg hns] at hlaw2
  refine rn ?_
  first | refine G.condD rfl (fun hc => ?_) (fun hc => ?_) | refine G.condN rfl (fun hc => ?_) (fun hc => ?_) | refine G.cond rfl (fun hc => ?_) (fun hc => ?_)
  · rw [if_pos hc] at hlaw2
    refine rn ?_
    refine sCat tb ?_ (hk := fun _ => by simp only [List.length_append, List.length_take, List.length_drop, List.length_cons, List.length_nil, List.length_replicate]; omega)
    refine rn ?_
    refine sNeg ?_
    refine rn ?_
    refine sCall c80 (zeros_ok (0 - top) W1 (by omega)) ?_
    rintro _ _ ⟨rfl, rfl⟩
    refine rn ?_
    refine sCat tb ?_ (hk := fun _ => by simp only [List.length_append, List.length_take, List.length_drop, List.length_cons, List.length_nil, List.length_replicate]; omega)
    refine rn ?_
    refine sCat tb ?_ (hk := fun _ => by simp only [List.length_append, List.length_take, List.length_drop, List.length_cons, List.length_nil, List.length_replicate]; omega)
    refine rn ?_
    refine G.ret1 rfl rfl rfl rfl ?_
    refine ⟨⟨_, rfl, ?_⟩, hx1⟩
    have e : sg ++ [48, 46] ++ List.replicate (0 - top).toNat 48 ++ d = sg ++ 48 :: 46 :: (List.replicate (-top).toNat 48 ++ d) := by
      rw [show 0 - top = -top by omega]; simp
    rw [e]
    exact hlaw2
  rw [if_neg hc] at hlaw2
  refine rn ?_
  first | refine G.condD rfl (fun hc => ?_) (fun hc => ?_) | refine G.condN rfl (fun hc => ?_) (fun hc => ?_) | refine G.cond rfl (fun hc => ?_) (fun hc => ?_)
  · rw [if_pos hc] at hlaw2
    refine rn ?_
    refine sCat tb ?_ (hk := fun _ => by omega)
    refine rn ?_
    refine sAd tb (r := top - d.length) ?_ (hp := wrap_i64 (by omega) (by omega))
    refine rn ?_
    refine sCall c80 (zeros_ok (top - d.length) W1 (by omega)) ?_
    rintro _ _ ⟨rfl, rfl⟩
    refine rn ?_
    refine sCat tb ?_ (hk := fun _ => by simp only [List.length_append, List.length_take, List.length_drop, List.length_cons, List.length_nil, List.length_replicate]; omega)
    refine rn ?_
    refine G.ret1 rfl rfl rfl rfl ?_
    refine ⟨⟨_, rfl, ?_⟩, hx1⟩
    rw [List.append_assoc]
    exact hlaw2
  rw [if_neg hc] at hlaw2
  obtain ⟨n, rfl⟩ := Int.eq_ofNat_of_zero_le (show 0 ≤ top by omega)
  rw [Int.toNat_natCast] at hlaw2
  have hnl : n < d.length := by omega
  refine rn ?_
  refine G.regionM [(0, true), (1, true), (2, true), (3, true), (4, true), (5, true), (6, true), (7, true), (8, true), (9, true), (10, true)] (Ext W1) (by kernel_rfl) (by kernel_rfl) rfl mixed (Ext.drew W1) rfl ?_
  refine rd ?_
  refine GM.read (fun w' hS => Step.sliceSh tb n rfl (Op1.of rfl (by first | exact fun _ => rfl | exact fun h => h | exact fun h => bL h | exact fun h => bL (bL h) | exact fun h => bL (bL (bL h)))) (Op1.of rfl (by first | exact fun _ => rfl | exact fun h => h | exact fun h => bL h | exact fun h => bL (bL h) | exact fun h => bL (bL (bL h)))) rfl (fun _ => ⟨rfl, by omega⟩) rfl ⟨rfl, rfl⟩) rfl rfl ?_
  refine dCat tb ?_ (hk := fun _ => by simp only [List.length_append, List.length_take, List.length_drop, List.length_cons, List.length_nil, List.length_replicate]; omega)
  refine rd ?_
  refine dCat tb ?_ (hk := fun _ => by simp only [List.length_append, List.length_take, List.length_drop, List.length_cons, List.length_nil, List.length_replicate]; omega)
  refine rd ?_
  refine GM.read (fun w' hS => Step.sliceSl tb n rfl (Op1.of rfl (by first | exact fun _ => rfl | exact fun h => h | exact fun h => bL h | exact fun h => bL (bL h) | exact fun h => bL (bL (bL h)))) (Op1.of rfl (by first | exact fun _ => rfl | exact fun h => h | exact fun h => bL h | exact fun h => bL (bL h) | exact fun h => bL (bL (bL h)))) rfl (fun _ => ⟨rfl, by omega⟩) rfl ⟨rfl, rfl⟩) rfl rfl ?_
  refine dCat tb ?_ (hk := fun _ => by simp only [List.length_append, List.length_take, List.length_drop, List.length_cons, List.length_nil, List.length_replicate]; omega)
  refine rd ?_
  refine GM.nil ?_
  refine rn ?_
  refine G.ret1 rfl rfl rfl rfl ?_
  refine ⟨⟨_, rfl, ?_⟩, hx1.trans (Ext.drew W1)⟩
  have e : sg ++ d.take n ++ [46] ++ d.drop n = sg ++ (d.take n ++ 46 :: d.drop n) := by simp
  rw [e]
  exact hlaw2
end Go.Proofs.YtcngoccnfmhhnaaGreatDoor
end
section
open Go Go.Vg Go.RowKit Go.Proofs Go.Proofs.YtcngoccnfmhhnaaGreatDoor
namespace Go.Proofs.YtcngoccnfmhhnaaGreatDoor
open Go.Ex

theorem escT_snoc (l : List UInt8) (c : UInt8) : escT (l ++ [c]) = escT l ++ escC c := by simp [escT]
theorem escT_len (l : List UInt8) : (escT l).length ≤ 2 * l.length := by
  induction l with
  | nil => decide
  | cons c l ih =>
    have e : escT (c :: l) = escC c ++ escT l := rfl
    have h : (escC c).length ≤ 2 := by
      unfold escC
      repeat' split
      all_goals simp
    rw [e, List.length_append, List.length_cons]
    omega
theorem escC_eq (c : UInt8) : escC c = if (c.toNat : Int) = 92 then [92, 92] else if (c.toNat : Int) = 34 then [92, 34] else if (c.toNat : Int) = 10 then [92, 110] else [c] := by
  have h : ∀ n : UInt8, (c = n) = ((c.toNat : Int) = (n.toNat : Int)) := fun n => propext ⟨fun e => by rw [e], fun e => by rw [← UInt8.toNat_inj]; omega⟩
  unfold escC
  simp only [h]
  rfl
theorem escR_ok (s : List UInt8) (w : World) (hs : s.length ≤ 1000000000) : Ret Tryz.prog 44 ⟨[S s]⟩ w fun r w' => r = S (escT s) ∧ Ext w w' := by
  refine ret_of_G Tryz.func44 rfl Tryz.ntmps44 rfl ?_
  simp only [argEnv]
  refine rn ?_
  refine (G.loop (fun k : Nat => [(0, none, S s), (3, none, S (escT (s.take k))), (4, none, .int .i64 k)]) (fun k W => w = W ∧ k ≤ s.length) (fun k => s.length - k) 0 (by repeat (first | exact Sub.nil _ | refine Sub.cons rfl ?_)) ⟨rfl, Nat.zero_le _⟩ ?_)
  rintro k _ ⟨rfl, hk⟩
  have hel := escT_len (s.take k)
  rw [List.length_take] at hel
  refine rn ?_
  first | refine G.condD rfl (fun hc => ?_) (fun hc => ?_) | refine G.condN rfl (fun hc => ?_) (fun hc => ?_) | refine G.cond rfl (fun hc => ?_) (fun hc => ?_)
  · have hlt : k < s.length := by omega
    have htk : s.take (k + 1) = s.take k ++ [s.getD k 0] := by rw [List.take_succ_eq_append_getElem hlt, List.getD_eq_getElem?_getD, List.getElem?_eq_getElem hlt]; rfl
    have hsn := escT_snoc (s.take k) (s.getD k 0)
    rw [← htk] at hsn
    have hcs : (s.drop k).take 1 = [s.getD k 0] := by
      rw [List.drop_eq_getElem_cons hlt, List.getD_eq_getElem?_getD, List.getElem?_eq_getElem hlt]; rfl
    refine rn ?_
    refine sBs tb k ?_ (hj := fun _ => ⟨rfl, hlt⟩)
    have hce := escC_eq (s.getD k 0)
    obtain ⟨c, hcc⟩ : ∃ c, c = s.getD k 0 := ⟨_, rfl⟩
    rw [← hcc] at hsn hcs hce ⊢
    clear hcc htk
    refine rn ?_
    first | refine G.condD rfl (fun hc => ?_) (fun hc => ?_) | refine G.condN rfl (fun hc => ?_) (fun hc => ?_) | refine G.cond rfl (fun hc => ?_) (fun hc => ?_)
    · rw [if_pos (by exact hc)] at hce
      rw [hce] at hsn
      refine rn ?_
      refine sCat tb ?_ (hk := fun _ => by simp only [List.length_cons, List.length_nil]; omega)
      rw [← hsn]
      refine rn ?_
      refine sAd tb ?_
      refine rn ?_
      exact G.lp (x := k) (k + 1) (by repeat (first | exact Sub.nil _ | refine Sub.cons rfl ?_)) ⟨rfl, hlt⟩ (by omega)
    rw [if_neg (by exact hc)] at hce
    refine rn ?_
    first | refine G.condD rfl (fun hc => ?_) (fun hc => ?_) | refine G.condN rfl (fun hc => ?_) (fun hc => ?_) | refine G.cond rfl (fun hc => ?_) (fun hc => ?_)
    · rw [if_pos (by exact hc)] at hce
      rw [hce] at hsn
      refine rn ?_
      refine sCat tb ?_ (hk := fun _ => by simp only [List.length_cons, List.length_nil]; omega)
      rw [← hsn]
      refine rn ?_
      refine sAd tb ?_
      refine rn ?_
      exact G.lp (x := k) (k + 1) (by repeat (first | exact Sub.nil _ | refine Sub.cons rfl ?_)) ⟨rfl, hlt⟩ (by omega)
    rw [if_neg (by exact hc)] at hce
    refine rn ?_
    first | refine G.condD rfl (fun hc => ?_) (fun hc => ?_) | refine G.condN rfl (fun hc => ?_) (fun hc => ?_) | refine G.cond rfl (fun hc => ?_) (fun hc => ?_)
    · rw [if_pos (by exact hc)] at hce
      rw [hce] at hsn
      refine rn ?_
      refine sCat tb ?_ (hk := fun _ => by simp only [List.length_cons, List.length_nil]; omega)
      rw [← hsn]
      refine rn ?_
      refine sAd tb ?_
      refine rn ?_
      exact G.lp (x := k) (k + 1) (by repeat (first | exact Sub.nil _ | refine Sub.cons rfl ?_)) ⟨rfl, hlt⟩ (by omega)
    rw [if_neg (by exact hc)] at hce
    rw [hce, ← hcs] at hsn
    refine rn ?_
    refine sAd tb ?_
    refine GL.cons (Step.sliceS tb k (k + 1) rfl (Op1.of rfl (by first | exact fun _ => rfl | exact fun h => h | exact fun h => bL h | exact fun h => bL (bL h) | exact fun h => bL (bL (bL h)))) (Op1.of rfl (by first | exact fun _ => rfl | exact fun h => h | exact fun h => bL h | exact fun h => bL (bL h) | exact fun h => bL (bL (bL h)))) (Op1.of rfl (by first | exact fun _ => rfl | exact fun h => h | exact fun h => bL h | exact fun h => bL (bL h) | exact fun h => bL (bL (bL h)))) rfl (fun _ => ⟨rfl, rfl, by omega, by omega⟩) rfl ?_)
    rw [show k + 1 - k = 1 by omega]
    refine sCat tb ?_ (hk := fun _ => by simp only [List.length_take, List.length_drop]; omega)
    rw [← hsn]
    refine rn ?_
    refine sAd tb ?_
    refine rn ?_
    exact G.lp (x := k) (k + 1) (by repeat (first | exact Sub.nil _ | refine Sub.cons rfl ?_)) ⟨rfl, hlt⟩ (by omega)
  · have hke : k = s.length := by omega
    subst hke
    rw [List.take_length]
    refine rn ?_
    refine G.ret1 rfl rfl rfl rfl ?_
    exact ⟨rfl, Ext.refl _⟩
end Go.Proofs.YtcngoccnfmhhnaaGreatDoor
end
section
open Go Go.Vg Go.RowKit Go.Proofs Go.Proofs.YtcngoccnfmhhnaaGreatDoor
namespace Go.Proofs.YtcngoccnfmhhnaaGreatDoor
open Go.Ex Go.Nm

/-- the first labels, without the brace behind them -/
def labsO : List Lab.Lab → List UInt8
  | [] => []
  | x :: l => 123 :: (labT x ++ l.flatMap fun y => 44 :: labT y)
theorem labsO_snoc (l : List Lab.Lab) (x : Lab.Lab) : labsO (l ++ [x]) = labsO l ++ (if l.length = 0 then 123 else 44) :: labT x := by
  cases l with
  | nil => simp [labsO]
  | cons y l => simp [labsO]
theorem labR_eq : ∀ l : List Lab.Lab, labR l = (l.flatMap fun y => 44 :: labT y) ++ [125]
  | [] => rfl
  | x :: l => by rw [labR, labR_eq l]; simp
theorem labsO_T (l : List Lab.Lab) : labsT l = labsO l ++ (if 0 < l.length then [125] else []) := by
  cases l with
  | nil => rfl
  | cons x l =>
    rw [if_pos (by simp)]
    simp [labsT, labsO, labR_eq]
theorem labT_len {x : Lab.Lab} (h : Lab.fairB x = true) : (labT x).length ≤ 3075 := by
  obtain ⟨_, h1, h2, _⟩ := fair_of h
  have := escT_len x.2
  unfold labT
  simp only [List.length_append, List.length_cons, List.length_nil]
  omega
theorem labsO_len : ∀ (n : Nat) (l : List Lab.Lab), l.length = n → (∀ x ∈ l, Lab.fairB x = true) → (labsO l).length ≤ 3076 * n
  | 0, l, h, _ => by rw [List.eq_nil_of_length_eq_zero h]; decide
  | n + 1, l, h, hf => by
    have hne : l ≠ [] := by intro e; subst e; cases h
    obtain ⟨r, x, rfl⟩ : ∃ r x, l = r ++ [x] := ⟨l.dropLast, l.getLast hne, (List.dropLast_concat_getLast hne).symm⟩
    have ih := labsO_len n r (by simpa using h) fun y hy => hf y (List.mem_append_left _ hy)
    have := labT_len (hf x (by simp))
    rw [labsO_snoc, List.length_append, List.length_cons]
    omega
/-- a line in memory that can be written -/
structure SmOk (W : World) (x : Sm) : Prop where
  labs : Lab.Labs W x.v x.out
  set : SetOk x.out
  few : x.out.length ≤ 6
  name : Lab.getL x.out nameB ≠ []
  val : VOk x.L.val
  time : ∀ t, x.L.time = some t → -9007199254740992 ≤ t ∧ t ≤ 9007199254740992
theorem SmOk.to {W W' : World} {x : Sm} (h : SmOk W x) (hx : Ext W W') : SmOk W' x := ⟨h.labs.to hx, h.set, h.few, h.name, h.val, h.time⟩
def wkey (x : Wl) : List Lab.Lab × Nat × Option Int := (x.set, x.v, x.t)
def skey (x : Sm) : List Lab.Lab × Nat × Option Int := (x.out, x.L.val, x.L.time)
theorem bodyW_snoc (l : List Wl) (x : Wl) : bodyW (l ++ [x]) = bodyW l ++ (x.text ++ [10]) := by simp [bodyW]
set_option maxHeartbeats 4000000 in
theorem textL_ok (v : Value) (l : List Sm) (w : World) (hv : Sli w v 4 (l.map smC)) (hl : l.length ≤ 12) (ha : ∀ x ∈ l, SmOk w x) :
    Ret Tryz.prog 20 ⟨[v]⟩ w fun r w' => (∃ ws : List Wl, (∀ x ∈ ws, x.Ok) ∧ ws.map wkey = l.map skey ∧ By w' r (bodyW ws) ∧ (bodyW ws).length ≤ 30000 * 12) ∧ Ext w w' := by
  have hlm : (l.map smC).length = l.length := List.length_map ..
  refine ret_of_G Tryz.func20 rfl Tryz.ntmps20 rfl ?_
  simp only [argEnv]
  refine rn ?_
  refine (G.loop (fun z : Nat × List Wl => [(0, none, v), (3, none, S (bodyW z.2)), (4, none, .int .i64 z.1)]) (fun z W => Ext w W ∧ z.1 ≤ l.length ∧ (∀ x ∈ z.2, x.Ok) ∧ z.2.map wkey = (l.take z.1).map skey ∧ (bodyW z.2).length ≤ 30000 * z.1) (fun z => l.length - z.1) (0, []) (by repeat (first | exact Sub.nil _ | refine Sub.cons rfl ?_)) ⟨Ext.refl _, Nat.zero_le _, by simp, rfl, by decide⟩ ?_)
  rintro ⟨k, ws⟩ W ⟨hx, hk, hws, hkey, hbl⟩
  simp only at hk hws hkey hbl ⊢
  have hv1 := hv.to hx
  refine rn ?_
  rw [hlm]
  refine rn ?_
  first | refine G.condD rfl (fun hc => ?_) (fun hc => ?_) | refine G.condN rfl (fun hc => ?_) (fun hc => ?_) | refine G.cond rfl (fun hc => ?_) (fun hc => ?_)
  · have hlt : k < l.length := by omega
    obtain ⟨x, hxk⟩ : ∃ x, l[k]? = some x := ⟨_, List.getElem?_eq_getElem hlt⟩
    have hget : (l.map smC)[k]? = some (smC x) := by simp [hxk]
    have hsm := (ha x (List.mem_of_getElem? hxk)).to hx
    have htk : l.take (k + 1) = l.take k ++ [x] := by
      rw [List.take_succ_eq_append_getElem hlt]
      rw [List.getElem?_eq_getElem hlt] at hxk
      rw [Option.some.inj hxk]
    have hri := hsm.set.right
    have hlb := hsm.labs
    have hst := hsm.set
    have hfew := hsm.few
    have hnm := hsm.name
    have hvl := hsm.val
    have htm := hsm.time
    have hkk : skey x = (x.out, x.L.val, x.L.time) := rfl
    unfold smC linC at hget
    obtain ⟨xv, hxv⟩ : ∃ xv, xv = x.v := ⟨_, rfl⟩
    obtain ⟨xo, hxo⟩ : ∃ xo, xo = x.out := ⟨_, rfl⟩
    obtain ⟨xl, hxl⟩ : ∃ xl, xl = x.L.val := ⟨_, rfl⟩
    obtain ⟨xt, hxt⟩ : ∃ xt, xt = x.L.time := ⟨_, rfl⟩
    rw [← hxv, ← hxl, ← hxt] at hget
    rw [← hxo] at hri hlb hst hfew hnm hkk
    rw [← hxv] at hlb
    rw [← hxl] at hvl hkk
    rw [← hxt] at htm hkk
    clear hsm hxv hxo hxl hxt hxk
    have hsz : ∀ y ∈ xo, Lab.LabSz y := fun y hy => by
      obtain ⟨_, h1, h2, _⟩ := fair_of (hst.fair y hy)
      exact ⟨Nat.le_trans h1 (by decide), Nat.le_trans h2 (by decide)⟩
    have hrl : (Lab.pickL xo [nameB] false).length ≤ 6 := Nat.le_trans (Lab.pickL_len ..) hfew
    have hrf : ∀ y ∈ Lab.pickL xo [nameB] false, Lab.fairB y = true := fun y hy => hst.fair y (pickL_mem hy).1
    have hnl : (Lab.getL xo nameB).length ≤ 1024 := (fair_of (hst.fair _ (getL_mem hnm))).2.2.1
    try (first | refine gl tb ?_ | refine gg tb ?_ | refine ll tb ?_ | refine lg tb ?_); repeat ((first | refine G.condT rfl ?_ | refine G.condF rfl ?_ | refine sFa tb ?_ | refine sLd tb ?_ | refine sLa tb ?_ | refine sLen tb ?_ | refine sFd tb ?_ | refine sBd tb ?_ | refine sIa tb k ?_); try (first | refine gl tb ?_ | refine gg tb ?_ | refine ll tb ?_ | refine lg tb ?_))
    refine sCall c40 (Lab.refGet_ok xv xo nameB W hlb) ?_
    rintro _ W1 ⟨rfl, hx1⟩
    have hv2 := hv1.to hx1
    have hlb := hlb.to hx1
    try (first | refine gl tb ?_ | refine gg tb ?_ | refine ll tb ?_ | refine lg tb ?_); repeat ((first | refine G.condT rfl ?_ | refine G.condF rfl ?_ | refine sFa tb ?_ | refine sLd tb ?_ | refine sLa tb ?_ | refine sLen tb ?_ | refine sFd tb ?_ | refine sBd tb ?_ | refine sIa tb k ?_); try (first | refine gl tb ?_ | refine gg tb ?_ | refine ll tb ?_ | refine lg tb ?_))
    refine sCall c42 (Lab.refRight_ok xv xo W1 hlb hsz) ?_
    rintro _ W2 ⟨rfl, hx2⟩
    rw [hri]
    have hv3 := hv2.to hx2
    have hlb := hlb.to hx2
    refine rn ?_
    refine G.cond rfl (fun hc => ?_) (fun hc => ?_)
    · exfalso
      simp at hc
      exact hnm hc
    clear hc hri
    try (first | refine gl tb ?_ | refine gg tb ?_ | refine ll tb ?_ | refine lg tb ?_); repeat ((first | refine G.condT rfl ?_ | refine G.condF rfl ?_ | refine sFa tb ?_ | refine sLd tb ?_ | refine sLa tb ?_ | refine sLen tb ?_ | refine sFd tb ?_ | refine sBd tb ?_ | refine sIa tb k ?_); try (first | refine gl tb ?_ | refine gg tb ?_ | refine ll tb ?_ | refine lg tb ?_))
    refine sBs' tb ([nameB].map strC) (fun u W3 hu hs3 hx3 => ?_) (hkl := by simp [strC])
    have hlb := hlb.to hx3
    refine sCall c43 (Lab.refBut_ok xv u xo [nameB] W3 hlb hu.sli (by omega)) ?_
    rintro rv W4 ⟨hr, hx4⟩
    have hv4 := (hv3.to hx3).to hx4
    have hxW4 := (((hx.trans hx1).trans hx2).trans hx3).trans hx4
    have hkey2 : ∀ (ft : List UInt8) (tt : Option (List UInt8)), (⟨xo, xl, xt, ft, tt⟩ : Wl).text = Lab.getL xo nameB ++ (labsT (Lab.pickL xo [nameB] false) ++ 32 :: numsT ft tt) := fun _ _ => rfl
    generalize Lab.pickL xo [nameB] false = rest at hr hrl hrf hkey2
    have hrs := hr.sli
    have hrm : (rest.map Lab.labC).length = rest.length := List.length_map ..
    have hrol := labsO_len rest.length rest rfl hrf
    have hkk2 : ∀ (ft : List UInt8) (tt : Option (List UInt8)), wkey ⟨xo, xl, xt, ft, tt⟩ = skey x := fun _ _ => hkk.symm
    have hokk : ∀ (ft : List UInt8) (tt : Option (List UInt8)), TextR xl ft → TimeR tt xt → (⟨xo, xl, xt, ft, tt⟩ : Wl).Ok := fun _ _ h1 h2 => ⟨hst, hnm, h1, h2⟩
    generalize Lab.getL xo nameB = nm at hnl hkey2 ⊢
    clear hx hx1 hx2 hx3 hx4 hv1 hv2 hv3 hu hlb hst hnm hsz hs3 hkk
    refine rn ?_
    refine sCat tb ?_ (hk := fun _ => by omega)
    obtain ⟨q, hq⟩ : ∃ q, q = bodyW ws ++ nm := ⟨_, rfl⟩
    have hql : q.length ≤ 30000 * k + 1024 := by rw [hq, List.length_append]; omega
    rw [← hq, show q = q ++ labsO (rest.take 0) by simp [labsO]]
    refine rn ?_
    refine (G.loop (fun j : Nat => [(0, none, v), (3, none, S (q ++ labsO (rest.take j))), (4, none, .int .i64 k), (6, none, rv), (7, none, .int .i64 j)]) (fun j W => Ext W4 W ∧ j ≤ rest.length) (fun j => rest.length - j) 0 (by repeat (first | exact Sub.nil _ | refine Sub.cons rfl ?_)) ⟨Ext.refl _, Nat.zero_le _⟩ ?_)
    rintro j W5 ⟨hx5, hj⟩
    have hrs5 := hrs.to hx5
    refine rn ?_
    rw [hrm]
    refine rn ?_
    first | refine G.condD rfl (fun hc => ?_) (fun hc => ?_) | refine G.condN rfl (fun hc => ?_) (fun hc => ?_) | refine G.cond rfl (fun hc => ?_) (fun hc => ?_)
    · have hjl : j < rest.length := by omega
      obtain ⟨y, hym, hyg, hyt, -, -⟩ := Lab.Labs.at hjl
      have hyg' : (rest.map Lab.labC)[j]? = some [S y.1, S y.2] := hyg
      have hol := labsO_len (rest.take j).length (rest.take j) rfl fun z hz => hrf z (List.mem_of_mem_take hz)
      have hyf := fair_of (hrf y hym)
      have hye := escT_len y.2
      rw [List.length_take] at hol
      have hsn := labsO_snoc (rest.take j) y
      rw [← hyt, List.length_take, show min j rest.length = j by omega] at hsn
      have hol2 : (labsO (rest.take j)).length ≤ 20000 := by omega
      generalize labsO (rest.take j) = t at hol2 hsn
      refine rn ?_
      refine G.join (fun m : UInt8 => [(0, none, v), (3, none, S (q ++ t)), (4, none, .int .i64 k), (6, none, rv), (7, none, .int .i64 j), (8, none, S [m])]) (fun m W => W5 = W ∧ m = if j = 0 then 123 else 44) ?_ ?_
      rotate_left
      · first | refine G.condD rfl (fun hc => ?_) (fun hc => ?_) | refine G.condN rfl (fun hc => ?_) (fun hc => ?_) | refine G.cond rfl (fun hc => ?_) (fun hc => ?_)
        · rw [if_pos (show j = 0 by omega)]
          refine rn ?_
          exact G.met 123 (by repeat (first | exact Sub.nil _ | refine Sub.cons rfl ?_)) ⟨rfl, rfl⟩
        · rw [if_neg (show ¬ j = 0 by omega)]
          refine rn ?_
          exact G.met 44 (by repeat (first | exact Sub.nil _ | refine Sub.cons rfl ?_)) ⟨rfl, rfl⟩
      rintro m _ ⟨rfl, hm⟩
      rw [← hm] at hsn
      refine G.regionM [(0, true), (1, true), (2, true), (3, true), (4, true), (5, true), (6, true), (7, true), (8, true), (9, true), (10, true), (11, true), (12, true), (13, true), (14, true), (15, false), (16, true), (17, true), (18, true)] (Ext W5) (by kernel_rfl) (by kernel_rfl) rfl mixed (Ext.drew W5) rfl ?_
      try (refine mm tb ?_); repeat ((first | refine dFa tb ?_ | refine dLd tb ?_ | refine dLa tb ?_ | refine dLen tb ?_ | refine dFd tb ?_ | refine dIa tb j ?_); try (refine mm tb ?_))
      refine dCat tb ?_ (hk := fun _ => by simp only [List.length_append, List.length_cons, List.length_nil]; omega)
      try (refine mm tb ?_); repeat ((first | refine dFa tb ?_ | refine dLd tb ?_ | refine dLa tb ?_ | refine dLen tb ?_ | refine dFd tb ?_ | refine dIa tb j ?_); try (refine mm tb ?_))
      refine dCat tb ?_ (hk := fun _ => by simp only [List.length_append, List.length_cons, List.length_nil]; omega)
      try (refine mm tb ?_); repeat ((first | refine dFa tb ?_ | refine dLd tb ?_ | refine dLa tb ?_ | refine dLen tb ?_ | refine dFd tb ?_ | refine dIa tb j ?_); try (refine mm tb ?_))
      refine dCat tb ?_ (hk := fun _ => by simp only [List.length_append, List.length_cons, List.length_nil]; omega)
      try (refine mm tb ?_); repeat ((first | refine dFa tb ?_ | refine dLd tb ?_ | refine dLa tb ?_ | refine dLen tb ?_ | refine dFd tb ?_ | refine dIa tb j ?_); try (refine mm tb ?_))
      refine GM.eff (Step.callX rfl rfl (by repeat (first | exact OpL.nil | refine OpL.cons (Op1.of rfl (by first | exact fun _ => rfl | exact fun h => h | exact fun h => bL h | exact fun h => bL (bL h) | exact fun h => bL (bL (bL h)))) ?_)) c44 rfl (fun hc => escR_ok y.2 W5.drew (by omega)) ?_)
      intro W6 hx6
      have hx6 := (Ext.drew W5).trans hx6
      refine ⟨hx6, ?_⟩
      refine rd ?_
      refine dCat tb ?_ (hk := fun _ => by simp only [List.length_append, List.length_cons, List.length_nil]; omega)
      try (refine mm tb ?_); repeat ((first | refine dFa tb ?_ | refine dLd tb ?_ | refine dLa tb ?_ | refine dLen tb ?_ | refine dFd tb ?_ | refine dIa tb j ?_); try (refine mm tb ?_))
      refine dCat tb ?_ (hk := fun _ => by simp only [List.length_append, List.length_cons, List.length_nil]; omega)
      try (refine mm tb ?_); repeat ((first | refine dFa tb ?_ | refine dLd tb ?_ | refine dLa tb ?_ | refine dLen tb ?_ | refine dFd tb ?_ | refine dIa tb j ?_); try (refine mm tb ?_))
      refine GM.nil ?_
      have hxe : q ++ t ++ [m] ++ y.1 ++ [61, 34] ++ escT y.2 ++ [34] = q ++ labsO (rest.take (j + 1)) := by
        rw [hsn]
        simp [labT]
      rw [hxe]
      refine rn ?_
      refine sAd tb ?_
      refine rn ?_
      exact G.lp (x := j) (j + 1) (by repeat (first | exact Sub.nil _ | refine Sub.cons rfl ?_)) ⟨hx5.trans hx6, hjl⟩ (by omega)
    have hje : j = rest.length := by omega
    subst hje
    rw [List.take_length]
    have hlT := labsO_T rest
    have hlTl : (labsT rest).length ≤ 20000 := by
      rw [hlT, List.length_append]
      have : (if 0 < rest.length then [(125 : UInt8)] else []).length ≤ 1 := by split <;> decide
      omega
    refine rn ?_
    rw [hrm]
    refine rn ?_
    refine G.join (fun _ : Unit => [(0, none, v), (3, none, S (q ++ labsT rest)), (4, none, .int .i64 k)]) (fun _ W => W5 = W) ?_ ?_
    rotate_left
    · first | refine G.condD rfl (fun hc => ?_) (fun hc => ?_) | refine G.condN rfl (fun hc => ?_) (fun hc => ?_) | refine G.cond rfl (fun hc => ?_) (fun hc => ?_)
      · rw [if_pos (show 0 < rest.length by omega)] at hlT
        refine rn ?_
        refine sCat tb ?_ (hk := fun _ => by simp only [List.length_append, List.length_cons, List.length_nil]; omega)
        rw [List.append_assoc, ← hlT]
        refine rn ?_
        exact G.met () (by repeat (first | exact Sub.nil _ | refine Sub.cons rfl ?_)) rfl
      · rw [if_neg (show ¬ 0 < rest.length by omega), List.append_nil] at hlT
        rw [hlT]
        refine rn ?_
        exact G.met () (by repeat (first | exact Sub.nil _ | refine Sub.cons rfl ?_)) rfl
    rintro _ _ rfl
    have hv5 := hv4.to hx5
    have hxW5 := hxW4.trans hx5
    clear hrs hrs5 hr hx5 hlT hxW4 hv4 hrol hrm
    refine rn ?_
    refine sCat tb ?_ (hk := fun _ => by simp only [List.length_append, List.length_cons, List.length_nil]; omega)
    try (first | refine gl tb ?_ | refine gg tb ?_ | refine ll tb ?_ | refine lg tb ?_); repeat ((first | refine G.condT rfl ?_ | refine G.condF rfl ?_ | refine sFa tb ?_ | refine sLd tb ?_ | refine sLa tb ?_ | refine sLen tb ?_ | refine sFd tb ?_ | refine sBd tb ?_ | refine sIa tb k ?_); try (first | refine gl tb ?_ | refine gg tb ?_ | refine ll tb ?_ | refine lg tb ?_))
    refine sCall c45 (textF_ok xl W5 hvl) ?_
    rintro _ W6 ⟨⟨ft, rfl, hft⟩, hx6⟩
    have hftl := hft.len
    have hv6 := hv5.to hx6
    have hxW6 := hxW5.trans hx6
    clear hx6 hxW5 hv5
    refine rn ?_
    refine sCat tb ?_ (hk := fun _ => by simp only [List.length_append, List.length_cons, List.length_nil]; omega)
    try (first | refine gl tb ?_ | refine gg tb ?_ | refine ll tb ?_ | refine lg tb ?_); repeat ((first | refine G.condT rfl ?_ | refine G.condF rfl ?_ | refine sFa tb ?_ | refine sLd tb ?_ | refine sLa tb ?_ | refine sLen tb ?_ | refine sFd tb ?_ | refine sBd tb ?_ | refine sIa tb k ?_); try (first | refine gl tb ?_ | refine gg tb ?_ | refine ll tb ?_ | refine lg tb ?_))
    refine G.join (fun z : List UInt8 => [(0, none, v), (3, none, S z), (4, none, .int .i64 k)]) (fun z W => Ext w W ∧ ∃ tt, TimeR tt xt ∧ z = q ++ labsT rest ++ 32 :: numsT ft tt ∧ z.length ≤ 30000 * k + 25000) ?_ ?_
    rotate_left
    · cases xt with
      | none =>
        refine rn ?_
        exact G.met (q ++ labsT rest ++ [32] ++ ft) (by repeat (first | exact Sub.nil _ | refine Sub.cons rfl ?_)) ⟨hxW6, none, .inl ⟨rfl, rfl⟩, by simp [numsT], by simp only [List.length_append, List.length_cons, List.length_nil]; omega⟩
      | some n =>
        obtain ⟨hn1, hn2⟩ := htm n rfl
        obtain ⟨d1, d2, d3, d4⟩ := Num.intP_decN n hn1 hn2
        refine rn ?_
        refine sCat tb ?_ (hk := fun _ => by simp only [List.length_append, List.length_cons, List.length_nil]; omega)
        try (first | refine gl tb ?_ | refine gg tb ?_ | refine ll tb ?_ | refine lg tb ?_); repeat ((first | refine G.condT rfl ?_ | refine G.condF rfl ?_ | refine sFa tb ?_ | refine sLd tb ?_ | refine sLa tb ?_ | refine sLen tb ?_ | refine sFd tb ?_ | refine sBd tb ?_ | refine sIa tb k ?_); try (first | refine gl tb ?_ | refine gg tb ?_ | refine ll tb ?_ | refine lg tb ?_))
        refine sCall c46 (Num.refIntText_ok n W6 (by omega) (by omega)) ?_
        rintro _ W7 ⟨rfl, hx7⟩
        refine rn ?_
        refine sCat tb ?_ (hk := fun _ => by simp only [List.length_append, List.length_cons, List.length_nil]; omega)
        refine rn ?_
        exact G.met (q ++ labsT rest ++ [32] ++ ft ++ [32] ++ Num.decN n) (by repeat (first | exact Sub.nil _ | refine Sub.cons rfl ?_)) ⟨hxW6.trans hx7, some (Num.decN n), .inr ⟨_, n, rfl, rfl, d2, d3, d1, hn1, hn2, d4⟩, by simp [numsT], by simp only [List.length_append, List.length_cons, List.length_nil]; omega⟩
    rintro z W7 ⟨hxW7, tt, htt, hz, hzl⟩
    refine rn ?_
    refine sCat tb ?_ (hk := fun _ => by simp only [List.length_append, List.length_cons, List.length_nil]; omega)
    refine rn ?_
    have hze : z ++ [10] = bodyW (ws ++ [⟨xo, xl, xt, ft, tt⟩]) := by
      rw [bodyW_snoc, hkey2, hz, hq]
      simp
    have hzl2 : (z ++ [10]).length ≤ 30000 * (k + 1) := by simp only [List.length_append, List.length_cons, List.length_nil]; omega
    rw [hze] at hzl2 ⊢
    refine sAd tb ?_
    refine rn ?_
    refine G.lp (x := (k, ws)) (k + 1, ws ++ [⟨xo, xl, xt, ft, tt⟩]) (by repeat (first | exact Sub.nil _ | refine Sub.cons rfl ?_)) ⟨hxW7, hlt, ?_, ?_, hzl2⟩ (by show l.length - (k + 1) < l.length - k; omega)
    · intro y hy
      rcases List.mem_append.1 hy with hy | hy
      · exact hws y hy
      · rw [List.mem_singleton.1 hy]; exact hokk ft tt hft htt
    · show (ws ++ [_]).map wkey = (l.take (k + 1)).map skey
      rw [htk, List.map_append, List.map_append, hkey]
      simp [hkk2 ft tt]
  · have hke : k = l.length := by omega
    subst hke
    rw [List.take_length] at hkey
    refine rn ?_
    refine GL.cons (Step.strBytes tb rfl (Op1.of rfl (by first | exact fun _ => rfl | exact fun h => h | exact fun h => bL h | exact fun h => bL (bL h) | exact fun h => bL (bL (bL h)))) rfl rfl rfl (by omega) rfl ?_)
    intro r W1 hr hs1 hx1
    refine rn ?_
    refine G.ret1 rfl rfl rfl rfl ?_
    exact ⟨⟨ws, hws, hkey, hr, by omega⟩, hx.trans hx1⟩
end Go.Proofs.YtcngoccnfmhhnaaGreatDoor
end
section
open Go Go.Vg Go.RowKit Go.Proofs Go.Proofs.YtcngoccnfmhhnaaGreatDoor
namespace Go.Proofs.YtcngoccnfmhhnaaGreatDoor
open Go.Ex

theorem within_ok (n m : Int) (w : World) (hm : 1 ≤ m) (hm2 : m ≤ 9223372036854775807) : Ret Tryz.prog 10 ⟨[.int .i64 n, .int .i64 m]⟩ w fun r w' => r = .int .i64 (n % m) ∧ w' = w := by
  have h1 := Int.tmod_eq_emod (a := n) (b := m)
  have h2 := Int.emod_nonneg n (b := m) (by omega)
  have h3 := Int.emod_lt_of_pos n (b := m) (by omega)
  obtain ⟨r, hr⟩ : ∃ r, r = n.tmod m := ⟨_, rfl⟩
  have hr1 : r < 0 → r + m = n % m := by
    intro h; rw [← hr] at h1; split at h1 <;> omega
  have hr2 : ¬ r < 0 → r = n % m := by
    intro h; rw [← hr] at h1; split at h1 <;> omega
  refine ret_of_G Tryz.func10 rfl Tryz.ntmps10 rfl ?_
  simp only [argEnv]
  refine rn ?_
  refine sRem hr.symm ?_
  refine rn ?_
  first | refine G.condD rfl (fun hc => ?_) (fun hc => ?_) | refine G.condN rfl (fun hc => ?_) (fun hc => ?_) | refine G.cond rfl (fun hc => ?_) (fun hc => ?_)
  · refine rn ?_
    have := hr1 hc
    refine sAd tb ?_
    refine rn ?_
    refine G.ret1 rfl rfl rfl rfl ?_
    exact ⟨by rw [this], rfl⟩
  · refine rn ?_
    refine G.ret1 rfl rfl rfl rfl ?_
    exact ⟨by rw [hr2 hc], rfl⟩

end Go.Proofs.YtcngoccnfmhhnaaGreatDoor
end
section
namespace Go.Vg
open Go.RowKit
section
variable {X : Cx} {ops : Array Oper} {l : List Oper} {k : List Kt} {e : Env} {w : World} {N : Env → World → Prop} {d : Nat} {c : Option Bool} {ty : TypeId} {pos : String} {af : Array Edge} {g : Option (Nat × Bool)}
theorem Step.lenA (T : Tb X.P) {x : Operand} {at_ et : TypeId} {a : Option Addr} {n cap : Nat}
    (hg : guardE ops e ⟨some d, .call { callee := .builtin .len, args := #[x], argTypes := #[at_] }, ty, pos, af, g⟩ = some c)
    (hx : Op1 e c x (.slice a n cap)) (ht : T.ty at_ = some (.slice et)) (hn : Nat.blt d X.n = true) (h : N ((d, c, .int .i64 n) :: e) w) :
    Step X ops ⟨some d, .call { callee := .builtin .len, args := #[x], argTypes := #[at_] }, ty, pos, af, g⟩ e w N :=
  Step.quiet rfl (by simpa [Nat.blt_eq] using hn) hg (fun _ hh => by cases hh) (fun t hf hc => by
    have he : X.P.elem at_ = et := by simp [Program.elem, T.ok _ _ ht]
    have hr := run_len_slice (P := X.P) w at_ ty a n cap (by rw [he]; exact T.ok _ _ ht)
    have hv := hx.val (ds := X.ds) hf hc
    simp only [execOp, resolve, invoke, builtin, Sem.run_bind, Sem.run_pure, Result.andThen_ok, List.map_toArray, List.map_cons, List.map_nil, hv, hr]
    rfl) h
end
end Go.Vg
end
section
open Go Go.Vg Go.RowKit Go.Proofs Go.Proofs.YtcngoccnfmhhnaaGreatDoor
namespace Go.Proofs.YtcngoccnfmhhnaaGreatDoor
open Go.Ex Go.Nm

/-- a line as it comes in -/
structure Rl where
  v : Value
  f : Nat
  T : Int
  h : Bool
  ls : List Lab.Lab
def rlcC (x : Rl) : List Value := [x.v, Fl x.f, .int .i64 x.T, .bool x.h]
structure RlOk (W : World) (x : Rl) : Prop where
  f : x.f < 2 ^ 64
  T : -9223372036854775808 ≤ x.T ∧ x.T ≤ 9223372036854775807
  sz : ∀ y ∈ x.ls, Lab.LabSz y
  v : Lab.Labs W x.v x.ls ∨ x.ls = [] ∧ ∃ a, x.v = .slice (some a) 0 0
theorem LinS.push {W W1 : World} {B : Nat} {lv lv' : Value} {l : List Sm} {x : Sm} (h : LinS W B lv l) (hx : Lab.LO W B x.v x.out) (hxn : ∀ g, x.v.ownBlock = some g → lv.ownBlock ≠ some g) (hxd : ∀ y ∈ l, ∀ g, y.v.ownBlock = some g → x.v.ownBlock ≠ some g) (hg : Grew B lv W W1) (ho : Owns W1 B lv' 44 4 ((l ++ [x]).map smC)) (h2 : Own2 W lv lv') : LinS W1 B lv' (l ++ [x]) := by
  have hnl : ∀ g, g < W.heap.size → lv'.ownBlock = some g → lv.ownBlock = some g := by
    intro g hgl hg
    rcases h2 with h2 | h2
    · rw [← h2]; exact hg
    · rw [h2] at hg; cases hg; omega
  refine ⟨ho, fun y hy => ?_, fun y hy g hg' e => ?_, List.pairwise_append.2 ⟨h.dj, List.pairwise_singleton _ _, fun y hy z hz g hg' => by rw [List.mem_singleton.1 hz]; exact hxd y hy g hg'⟩⟩
  · rcases List.mem_append.1 hy with hy | hy
    · exact (h.lo y hy).same fun g hgl e => hg.block g hgl (fun e2 => h.ne y hy g e e2.symm)
    · obtain rfl := List.mem_singleton.1 hy
      exact hx.same fun g hgl e => hg.block g hgl (fun e2 => hxn g e e2.symm)
  · rcases List.mem_append.1 hy with hy | hy
    · exact h.ne y hy g hg' (hnl g ((h.lo y hy).lt g hg').2 e)
    · obtain rfl := List.mem_singleton.1 hy
      exact hxn g hg' (hnl g (hx.lt g hg').2 e)
theorem new0_ok (a : Addr) (w : World) : Ret Tryz.prog 39 ⟨[.slice (some a) 0 0]⟩ w fun r w' => r = .tuple ⟨[.slice none 0 0, .int .i64 0]⟩ ∧ w' = w := by
  refine ret_of_G Tryz.func39 rfl Tryz.ntmps39 rfl ?_
  simp only [argEnv]
  refine rn ?_
  refine (G.loop (fun _ : Unit => [(0, none, .slice (some a) 0 0), (4, none, .int .i64 0)]) (fun _ W => w = W) (fun _ => 0) () (by repeat (first | exact Sub.nil _ | refine Sub.cons rfl ?_)) rfl ?_)
  rintro _ _ rfl
  refine rn ?_
  refine GL.cons (Step.lenA tb rfl (Op1.of rfl (by first | exact fun _ => rfl | exact fun h => h | exact fun h => bL h | exact fun h => bL (bL h) | exact fun h => bL (bL (bL h)))) rfl rfl ?_)
  refine rn ?_
  refine (G.loop (fun _ : Unit => [(0, none, .slice (some a) 0 0), (5, none, .slice none 0 0), (6, none, .bool false), (7, none, .int .i64 0)]) (fun _ W => w = W) (fun _ => 0) () (by repeat (first | exact Sub.nil _ | refine Sub.cons rfl ?_)) rfl ?_)
  rintro _ _ rfl
  refine rn ?_
  refine GL.cons (Step.lenA tb rfl (Op1.of rfl (by first | exact fun _ => rfl | exact fun h => h | exact fun h => bL h | exact fun h => bL (bL h) | exact fun h => bL (bL (bL h)))) rfl rfl ?_)
  refine rn ?_
  refine sLen tb (m := 2) (xs := []) ?_ (hs := fun _ => ⟨w, Sli.nil _ _⟩)
  refine rn ?_
  refine G.ret2 rfl rfl rfl rfl rfl ?_
  exact ⟨rfl, rfl⟩
/-- the set that New makes of the labels -/
theorem newL_ok (w : World) (v : Value) (ls : List Lab.Lab) (hv : Lab.Labs w v ls ∨ ls = [] ∧ ∃ a, v = .slice (some a) 0 0) (hz : ∀ y ∈ ls, Lab.LabSz y) (hn : ls.length ≤ 1000) :
    Ret Tryz.prog 39 ⟨[v]⟩ w fun r w' => ∃ s, r = .tuple ⟨[s, .int .i64 (Lab.newR ls).1]⟩ ∧ Lab.LO w' w.heap.size s (Lab.newR ls).2 ∧ Ext w w' := by
  rcases hv with hv | ⟨rfl, a, rfl⟩
  · exact Lab.refNew_ok v ls w hv hn hz
  · refine (new0_ok a w).mono ?_
    rintro _ _ ⟨rfl, rfl⟩
    exact ⟨_, rfl, Owns.nil _ _ _ _, Ext.refl _⟩
/-- a line in memory that can be written, but for its set's row -/
structure SmK (x : Sm) : Prop where
  set : SetOk x.out
  few : x.out.length ≤ 6
  name : Lab.getL x.out nameB ≠ []
  val : VOk x.L.val
  time : ∀ t, x.L.time = some t → -9007199254740992 ≤ t ∧ t ≤ 9007199254740992
theorem newR_len (ls : List Lab.Lab) : (Lab.newR ls).2.length ≤ ls.length := by
  have h := (Lab.foldN_perm ls).length_eq
  have h2 : (Lab.keptL ls).length ≤ ls.length := List.length_filter_le ..
  unfold Lab.newR
  split
  · split
    · simp
    · split
      · simp
      · simp only; omega
  · simp
set_option maxHeartbeats 4000000 in
theorem linesW_ok (v : Value) (l : List Rl) (w : World) (hv : Sli w v 4 (l.map rlcC)) (ha : ∀ x ∈ l, RlOk w x) :
    Ret Tryz.prog 19 ⟨[v]⟩ w fun r w' => (∃ l' : List Sm, LinS w' w.heap.size r l' ∧ l'.length ≤ 12 ∧ ∀ x ∈ l', SmK x) ∧ Ext w w' := by
  have hlm : (l.map rlcC).length = l.length := List.length_map ..
  have hbd := hv.bound
  rw [hlm] at hbd
  refine ret_of_G Tryz.func19 rfl Tryz.ntmps19 rfl ?_
  simp only [argEnv]
  refine rn ?_
  refine (G.loop (fun z : Nat × Value × List Sm => [(0, none, v), (3, none, z.2.1), (4, none, .int .i64 z.1)]) (fun z W => Ext w W ∧ z.1 ≤ l.length ∧ z.1 ≤ 12 ∧ LinS W w.heap.size z.2.1 z.2.2 ∧ z.2.2.length ≤ z.1 ∧ ∀ x ∈ z.2.2, SmK x) (fun z => 12 - z.1) (0, .slice none 0 0, []) (by repeat (first | exact Sub.nil _ | refine Sub.cons rfl ?_)) ⟨Ext.refl _, Nat.zero_le _, Nat.zero_le _, ⟨Owns.nil _ _ _ _, by simp, by simp, by simp⟩, Nat.zero_le _, by simp⟩ ?_)
  rintro ⟨k, sv, l'⟩ W ⟨hx, hk, hk12, hlin, hll, hsk⟩
  simp only at hk hk12 hlin hll hsk ⊢
  have hv1 := hv.to hx
  refine rn ?_
  rw [hlm]
  refine rn ?_
  refine G.cond rfl (fun hc => ?_) (fun hc => ?_)
  · have hlt : k < l.length ∧ k < 12 := by
      simp only [Bool.and_eq_true, decide_eq_true_eq] at hc; omega
    obtain ⟨hlt, hk12'⟩ := hlt
    obtain ⟨x, hxk⟩ : ∃ x, l[k]? = some x := ⟨_, List.getElem?_eq_getElem hlt⟩
    have hget : (l.map rlcC)[k]? = some [x.v, Fl x.f, .int .i64 x.T, .bool x.h] := by simp [hxk, rlcC]
    have hxo := ha x (List.mem_of_getElem? hxk)
    have hxs : Lab.Labs W x.v x.ls ∨ x.ls = [] ∧ ∃ a, x.v = .slice (some a) 0 0 := hxo.v.imp (fun h => h.to hx) id
    obtain ⟨a, cap, hxv⟩ : ∃ a cap, x.v = .slice a x.ls.length cap := by
      rcases hxs with h | ⟨h0, a, h⟩
      · obtain ⟨a, cap, h, _⟩ := h.len
        exact ⟨a, cap, by rw [h, List.length_map]⟩
      · exact ⟨_, _, by rw [h, h0]; rfl⟩
    have hsz := hxo.sz
    have hfb := hxo.f
    have hTb := hxo.T
    obtain ⟨ls, hls⟩ : ∃ ls, ls = x.ls := ⟨_, rfl⟩
    obtain ⟨xf, hxf⟩ : ∃ xf, xf = x.f := ⟨_, rfl⟩
    obtain ⟨xT, hxT⟩ : ∃ xT, xT = x.T := ⟨_, rfl⟩
    obtain ⟨xh, hxh⟩ : ∃ xh, xh = x.h := ⟨_, rfl⟩
    rw [hxv] at hget hxs
    rw [← hls] at hget hxs hsz
    rw [← hxf] at hget hfb
    rw [← hxT] at hget hTb
    rw [← hxh] at hget
    clear hxo hls hxf hxT hxh hxk hxv hc
    obtain ⟨g, hg⟩ : ∃ g, g = W.heap.size := ⟨_, rfl⟩
    have hgw : w.heap.size ≤ g := by have := hx.size; omega
    try (first | refine gl tb ?_ | refine gg tb ?_ | refine ll tb ?_ | refine lg tb ?_); repeat ((first | refine G.condT rfl ?_ | refine G.condF rfl ?_ | refine sFa tb ?_ | refine sLd tb ?_ | refine sLa tb ?_ | refine sLen tb ?_ | refine sFd tb ?_ | refine sBd tb ?_ | refine sIa tb k ?_); try (first | refine gl tb ?_ | refine gg tb ?_ | refine ll tb ?_ | refine lg tb ?_))
    refine sAl tb (fun W1 hb1 hs1 hx1 => ?_)
    refine sSt tb (fun W2 hb2 hw2 => ?_) (vs := [.slice a ls.length cap, Fl xf, .int .i64 xT, .bool xh]) (hv := rfl) (h1 := by simp [Value.oneCell'])
    rw [← hg] at hb2 ⊢
    have hxW : Ext W W2 := Below.wr hx1 hw2 (Nat.le_refl _)
    have hs2 : W2.heap.size = g + 1 := by rw [hw2.size, hs1, hg]
    clear hb1 hs1 hx1 hw2
    refine rn ?_
    refine GL.cons (Step.lenA tb rfl (Op1.of rfl (by first | exact fun _ => rfl | exact fun h => h | exact fun h => bL h | exact fun h => bL (bL h) | exact fun h => bL (bL (bL h)))) rfl rfl ?_)
    refine rn ?_
    refine G.join (fun _ : Unit => [(0, none, v), (3, none, sv), (4, none, .int .i64 k), (5, none, ptr g)]) (fun _ W3 => Ext W W3 ∧ W3.heap.size = g + 1 ∧ ∃ (v' : Value) (ls' : List Lab.Lab), Bx W3 g [v', Fl xf, .int .i64 xT, .bool xh] ∧ (Lab.Labs W3 v' ls' ∨ ls' = [] ∧ ∃ a, v' = .slice (some a) 0 0) ∧ ls'.length ≤ 6 ∧ (∀ y ∈ ls', Lab.LabSz y) ∧ v'.oneCell' = true) ?_ ?_
    rotate_left
    · first | refine G.condD rfl (fun hc => ?_) (fun hc => ?_) | refine G.condN rfl (fun hc => ?_) (fun hc => ?_) | refine G.cond rfl (fun hc => ?_) (fun hc => ?_)
      · have hlb : Lab.Labs W (.slice a ls.length cap) ls := by
          rcases hxs with h | ⟨h, _⟩
          · exact h
          · rw [h, List.length_nil] at hc; omega
        have hlbm : (ls.map Lab.labC).length = ls.length := List.length_map ..
        refine rn ?_
        refine GL.cons (Step.sliceVh tb 6 rfl (Op1.of rfl (by first | exact fun _ => rfl | exact fun h => h | exact fun h => bL h | exact fun h => bL (bL h) | exact fun h => bL (bL (bL h)))) (Op1.of rfl (by first | exact fun _ => rfl | exact fun h => h | exact fun h => bL h | exact fun h => bL (bL h) | exact fun h => bL (bL (bL h)))) rfl rfl (fun _ => ⟨_, hlb⟩) (fun _ => ⟨rfl, by rw [hlbm]; omega⟩) rfl ?_)
        have hsub : Lab.Labs W (subS (.slice a ls.length cap) 2 0 6) (ls.take 6) := by
          have h := Sli.sub hlb (l := 0) (h := 6) (Nat.zero_le _) (by rw [hlbm]; omega)
          rw [List.drop_zero, ← List.map_take] at h
          exact h
        have hsc := subS_cells hlb 0 6
        obtain ⟨u, hu⟩ : ∃ u, u = subS (.slice a ls.length cap) 2 0 6 := ⟨_, rfl⟩
        rw [← hu] at hsub hsc ⊢
        clear hu
        have hone := hsub.one
        refine rn ?_
        refine sSf tb (fun W3 hb3 hw3 => ?_) (vs := [u]) (hv := hsc) (h1 := hone)
        refine rn ?_
        exact G.met () (by repeat (first | exact Sub.nil _ | refine Sub.cons rfl ?_)) ⟨hxW.wr hw3 (by omega), by rw [hw3.size, hs2], u, ls.take 6, hb3, .inl (hsub.to (hxW.wr hw3 (by omega))), by rw [List.length_take]; omega, fun y hy => hsz y (List.mem_of_mem_take hy), hone u (List.mem_singleton.2 rfl)⟩
      · refine rn ?_
        exact G.met () (by repeat (first | exact Sub.nil _ | refine Sub.cons rfl ?_)) ⟨hxW, hs2, _, ls, hb2, hxs.imp (fun h => h.to hxW) id, by omega, hsz, rfl⟩
    rintro _ W3 ⟨hxW3, hs3, v', ls', hb3, hls', hll6, hsz', hone'⟩
    clear hxs hb2 hxW hs2 hsz hget
    refine rn ?_
    refine sCall c39 (newL_ok W3 v' ls' hls' hsz' (by omega)) ?_
    rintro _ W4 ⟨s, rfl, hso, hx4⟩
    have hxW4 := hxW3.trans hx4
    have hb4 := hb3.to hx4
    have hnl := newR_len ls'
    obtain ⟨e, he⟩ : ∃ e, e = (Lab.newR ls').1 := ⟨_, rfl⟩
    obtain ⟨set, hse⟩ : ∃ set, set = (Lab.newR ls').2 := ⟨_, rfl⟩
    have hnew : Lab.newR ls' = (e, set) := by rw [he, hse]
    rw [← hse] at hso hnl
    rw [← he]
    clear he hse hls' hsz' hb3 hx4 hxW3 hone'
    refine rn ?_
    refine sCallx c40 (fun hc => Lab.refGet_ok s set nameB W4 hso.sli) ?_
    intro W5 hx5
    have hxW5 := hxW4.trans hx5
    have hb5 := hb4.to hx5
    have hso5 := hso.to hx5
    have hlin5 := hlin.to hxW5
    have hx05 := hx.trans hxW5
    clear hb4 hso hxW4 hx5
    refine rn ?_
    refine G.cond rfl (fun hc => ?_) (fun hc => ?_)
    · refine rn ?_
      refine sAd tb ?_
      refine rn ?_
      exact G.lp (x := (k, sv, l')) (k + 1, sv, l') (by repeat (first | exact Sub.nil _ | refine Sub.cons rfl ?_)) ⟨hx05, by show k + 1 ≤ l.length; omega, by show k + 1 ≤ 12; omega, hlin5, by show l'.length ≤ k + 1; omega, hsk⟩ (by show 12 - (k + 1) < 12 - k; omega)
    have h0 : e = 0 ∧ Lab.getL set nameB ≠ [] := by
      simp only [Bool.or_eq_false_iff, decide_eq_false_iff_not, Bool.not_eq_eq_eq_not, Bool.not_false, decide_eq_true_eq, ne_eq, Decidable.not_not] at hc
      exact hc
    obtain ⟨rfl, hnm⟩ := h0
    have hset := newR_set hnew
    clear hc hnew hlin5
    refine rn ?_
    refine sSf tb (fun W6 hb6 hw6 => ?_) (vs := [s]) (hv := hso5.cells) (h1 := hso5.sli.one)
    have hxW6 := hxW5.wr hw6 (by omega)
    have hso6 := hso5.wr hw6 (by omega)
    have hb6 : Bx W6 g [s, Fl xf, .int .i64 xT, .bool xh] := hb6
    obtain ⟨B, hB⟩ : ∃ B, B = W3.heap.size := ⟨_, rfl⟩
    rw [← hB] at hso6
    have hgB : g < B := by omega
    have hWB : W.heap.size ≤ B := by omega
    clear hso5 hb5 hw6 hxW5 hx05 hB
    obtain ⟨r, hr1, hr2⟩ : ∃ r, fcmpB .neq xf xf = some r ∧ (r = false → VOk xf) := by
      obtain ⟨R, sg, hR, rfl⟩ := float_cases hfb
      by_cases h : R ≤ infB
      · exact ⟨false, neq_real sg h, fun _ => .inr ⟨R, sg, h, rfl⟩⟩
      · exact ⟨true, neq_none sg (by omega) hR, fun h => by cases h⟩
    refine rn ?_
    refine GL.cons (Step.fcmp rfl (Op1.of rfl (by first | exact fun _ => rfl | exact fun h => h | exact fun h => bL h | exact fun h => bL (bL h) | exact fun h => bL (bL (bL h)))) (Op1.of rfl (by first | exact fun _ => rfl | exact fun h => h | exact fun h => bL h | exact fun h => bL (bL h) | exact fun h => bL (bL (bL h)))) hr1 rfl ?_)
    refine rn ?_
    refine G.join (fun _ : Unit => [(0, none, v), (3, none, sv), (4, none, .int .i64 k), (5, none, ptr g)]) (fun _ W7 => Ext W W7 ∧ Lab.LO W7 B s set ∧ ∃ f', VOk f' ∧ Bx W7 g [s, Fl f', .int .i64 xT, .bool xh]) ?_ ?_
    rotate_left
    · cases r with
      | true =>
        refine rn ?_
        refine GL.cons (Step.ext rfl rfl (by repeat (first | exact OpL.nil | refine OpL.cons (Op1.of rfl (by first | exact fun _ => rfl | exact fun h => h | exact fun h => bL h | exact fun h => bL (bL h) | exact fun h => bL (bL (bL h)))) ?_)) (run_ofbits Tryz.func41 (by kernel_rfl) (by kernel_rfl) (by kernel_rfl) (by kernel_rfl) nanB _) rfl ?_)
        refine rn ?_
        refine sSf tb (fun W7 hb7 hw7 => ?_) (vs := [Fl nanB]) (hv := rfl) (h1 := by simp [Value.oneCell'])
        refine rn ?_
        exact G.met () (by repeat (first | exact Sub.nil _ | refine Sub.cons rfl ?_)) ⟨hxW6.wr hw7 (by omega), hso6.wr hw7 hgB, nanB, .inl rfl, hb7⟩
      | false =>
        refine rn ?_
        exact G.met () (by repeat (first | exact Sub.nil _ | refine Sub.cons rfl ?_)) ⟨hxW6, hso6, xf, hr2 rfl, hb6⟩
    clear hr1 hr2 hxW6 hso6 hb6 hfb
    rintro _ W7 ⟨hxW7, hso7, f', hvf, hb7⟩
    refine rn ?_
    refine G.join (fun _ : Unit => [(0, none, v), (3, none, sv), (4, none, .int .i64 k), (5, none, ptr g)]) (fun _ W8 => Ext W W8 ∧ Lab.LO W8 B s set ∧ ∃ T1 : Int, Bx W8 g [s, Fl f', .int .i64 T1, .bool xh]) ?_ ?_
    rotate_left
    · cases xh with
      | false =>
        refine rn ?_
        refine sSf tb (fun W8 hb8 hw8 => ?_) (vs := [.int .i64 0]) (hv := rfl) (h1 := by simp [Value.oneCell'])
        refine rn ?_
        exact G.met () (by repeat (first | exact Sub.nil _ | refine Sub.cons rfl ?_)) ⟨hxW7.wr hw8 (by omega), hso7.wr hw8 hgB, 0, hb8⟩
      | true =>
        refine rn ?_
        exact G.met () (by repeat (first | exact Sub.nil _ | refine Sub.cons rfl ?_)) ⟨hxW7, hso7, xT, hb7⟩
    clear hxW7 hso7 hb7
    rintro _ W8 ⟨hxW8, hso8, T1, hb8⟩
    refine rn ?_
    refine sCall c10 (within_ok T1 18014398509481985 W8 (by decide) (by decide)) ?_
    rintro _ _ ⟨rfl, rfl⟩
    have hm1 := Int.emod_nonneg T1 (b := 18014398509481985) (by decide)
    have hm2 := Int.emod_lt_of_pos T1 (b := 18014398509481985) (by decide)
    obtain ⟨T2, hT2⟩ : ∃ T2, T2 = T1 % 18014398509481985 := ⟨_, rfl⟩
    rw [← hT2] at hm1 hm2 ⊢
    refine rn ?_
    refine sAd tb (r := T2 - 9007199254740992) ?_ (hp := wrap_i64 (by omega) (by omega))
    refine rn ?_
    refine sSf tb (fun W9 hb9 hw9 => ?_) (vs := [.int .i64 (T2 - 9007199254740992)]) (hv := rfl) (h1 := by simp [Value.oneCell'])
    have hxW9 := hxW8.wr hw9 (by omega)
    have hso9 := hso8.wr hw9 hgB
    have hb9 : Bx W9 g [s, Fl f', .int .i64 (T2 - 9007199254740992), .bool xh] := hb9
    clear hxW8 hso8 hb8 hw9 hT2 hTb
    refine rn ?_
    refine G.join (fun _ : Unit => [(0, none, v), (3, none, sv), (4, none, .int .i64 k), (5, none, ptr g)]) (fun _ W8 => Ext W W8 ∧ Lab.LO W8 B s set ∧ ∃ t : Option Int, Bx W8 g (linC s f' t) ∧ ∀ n, t = some n → -9007199254740992 ≤ n ∧ n ≤ 9007199254740992) ?_ ?_
    rotate_left
    · cases xh with
      | false =>
        refine rn ?_
        refine sSf tb (fun W10 hb10 hw10 => ?_) (vs := [.int .i64 0]) (hv := rfl) (h1 := by simp [Value.oneCell'])
        refine rn ?_
        exact G.met () (by repeat (first | exact Sub.nil _ | refine Sub.cons rfl ?_)) ⟨hxW9.wr hw10 (by omega), hso9.wr hw10 hgB, none, hb10, fun n h => by cases h⟩
      | true =>
        refine rn ?_
        exact G.met () (by repeat (first | exact Sub.nil _ | refine Sub.cons rfl ?_)) ⟨hxW9, hso9, some (T2 - 9007199254740992), hb9, fun n h => by cases h; omega⟩
    clear hxW9 hso9 hb9 hm1 hm2
    rintro _ W10 ⟨hxW10, hso10, t, hb10, htb⟩
    have hlin10 := hlin.to hxW10
    have hone := hso10.sli.one s (List.mem_singleton.2 rfl)
    unfold linC at hb10
    refine rn ?_
    refine sBs' tb [linC s f' t] (fun us W11 ho11 hs11 hx11 => ?_) (hkl := by simp [linC]) (hfill := by kernel_rfl)
    have hlin11 := hlin10.to hx11
    have hso11 := hso10.to hx11
    have hxW11 := hxW10.trans hx11
    have hx011 := hx.trans hxW11
    refine sApp2 tb hlin11.ow ho11.sli (fun lv' W12 hlv' hg12 ho2 => ?_) (h1 := by
      intro z hz c hc
      obtain rfl := List.mem_singleton.1 hz
      exact linC_one hone c hc) (hB := hx011.size)
    have hsB : ∀ q, s.ownBlock = some q → W.heap.size ≤ q := fun q hq => by have := (hso11.lt q hq).1; omega
    have hpush := hlin11.push (x := ⟨⟨[], [], f', t⟩, set, s⟩) (hso11.mono (by have := hx.size; omega)) (fun q hq e => by
      have h1 := hsB q hq
      have h2 := (hlin.ow.lt q e).2
      omega) (fun y hy q hq e => by
      have h1 := hsB q e
      have h2 := ((hlin.lo y hy).lt q hq).2
      omega) hg12 (by rw [List.map_append]; exact hlv') ho2
    have hx012 : Ext w W12 := hg12.below _ hx011
    refine rn ?_
    refine sAd tb ?_
    refine rn ?_
    refine G.lp (x := (k, sv, l')) (k + 1, lv', l' ++ [⟨⟨[], [], f', t⟩, set, s⟩]) (by repeat (first | exact Sub.nil _ | refine Sub.cons rfl ?_)) ⟨hx012, by show k + 1 ≤ l.length; omega, by show k + 1 ≤ 12; omega, hpush, by show (l' ++ [_]).length ≤ k + 1; simp only [List.length_append, List.length_cons, List.length_nil]; omega, ?_⟩ (by show 12 - (k + 1) < 12 - k; omega)
    intro y hy
    rcases List.mem_append.1 hy with hy | hy
    · exact hsk y hy
    · rw [List.mem_singleton.1 hy]
      exact ⟨hset, by show set.length ≤ 6; omega, hnm, hvf, htb⟩
  · refine rn ?_
    refine G.ret1 rfl rfl rfl rfl ?_
    exact ⟨⟨l', hlin, by omega, hsk⟩, hx⟩
end Go.Proofs.YtcngoccnfmhhnaaGreatDoor
end
section
open Go Go.Vg Go.RowKit Go.Proofs Go.Proofs.YtcngoccnfmhhnaaGreatDoor
namespace Go.Proofs.YtcngoccnfmhhnaaGreatDoor
open Go.Ex Go.Nm

/-- a line as Read tells it -/
def keyF (p : List Lab.Lab × Nat × Option Int) : LineS × List Lab.Lab := (⟨Lab.getL p.1 nameB, Lab.pickL p.1 [nameB] false, p.2.1, p.2.2⟩, p.1)
def fixS (x : Sm) : Sm := ⟨(keyF (skey x)).1, x.out, x.v⟩
theorem fix_smP (l : List Sm) {ws : List Wl} (h : ws.map wkey = l.map skey) : (l.map fixS).map smP = ws.map Wl.smp := by
  have h1 : (l.map fixS).map smP = (l.map skey).map keyF := by
    rw [List.map_map, List.map_map]; rfl
  have h2 : ws.map Wl.smp = (ws.map wkey).map keyF := by
    rw [List.map_map]; rfl
  rw [h1, h2, h]
theorem fix_smC (l : List Sm) : (l.map fixS).map smC = l.map smC := by
  rw [List.map_map]; rfl
theorem SmK.ok {W : World} {B : Nat} {mv : Value} {l : List Sm} (h : ∀ x ∈ l, SmK x) (hl : LinS W B mv l) : ∀ x ∈ l, SmOk W x := fun x hx =>
  ⟨(hl.lo x hx).sli, (h x hx).set, (h x hx).few, (h x hx).name, (h x hx).val, (h x hx).time⟩
theorem text_le {ws : List Wl} : ∀ x ∈ ws, x.text.length ≤ (bodyW ws).length := by
  intro x hx
  induction ws with
  | nil => cases hx
  | cons y ws ih =>
    have e : bodyW (y :: ws) = y.text ++ [10] ++ bodyW ws := by simp [bodyW]
    rw [e, List.length_append, List.length_append]
    rcases List.mem_cons.1 hx with rfl | hx
    · omega
    · have := ih hx; omega
set_option maxHeartbeats 4000000 in
theorem limit_law (v : Value) (l : List Rl) (n : Int) (w : World) (hv : Sli w v 4 (l.map rlcC)) (ha : ∀ x ∈ l, RlOk w x) (hT : Tabs w) :
    Ret Tryz.prog 6 ⟨[v, .int .i64 n]⟩ w fun r w' => r = .bool true ∧ Ext w w' := by
  refine ret_of_G Tryz.func6 rfl Tryz.ntmps6 rfl ?_
  simp only [argEnv]
  refine rn ?_
  refine sCall c19 (linesW_ok v l w hv ha) ?_
  rintro mv w1 ⟨⟨m, hlin, hml, hsk⟩, hx1⟩
  have hms := hlin.ow.sli
  have hmm : (m.map smC).length = m.length := List.length_map ..
  have hT1 := hT.to hx1
  clear hv ha
  refine rn ?_
  refine sCall c10 (within_ok n 3 w1 (by decide) (by decide)) ?_
  rintro _ w1' ⟨rfl, hw⟩
  obtain rfl : w1 = w1' := hw.symm
  have hm1 := Int.emod_nonneg n (b := 3) (by decide)
  have hm2 := Int.emod_lt_of_pos n (b := 3) (by decide)
  obtain ⟨q, hq⟩ : ∃ q, q = n % 3 := ⟨_, rfl⟩
  rw [← hq] at hm1 hm2 ⊢
  clear hq
  refine rn ?_
  rw [hmm]
  refine sAd tb (r := (m.length : Int) + q) ?_ (hp := wrap_i64 (by omega) (by omega))
  refine sAd tb (r := (m.length : Int) + q - 1) ?_ (hp := wrap_i64 (by omega) (by omega))
  obtain ⟨lim, hlim⟩ : ∃ lim, lim = (m.length : Int) + q - 1 := ⟨_, rfl⟩
  rw [← hlim]
  refine rn ?_
  refine sCall c20 (textL_ok mv m w1 hms hml (SmK.ok hsk hlin)) ?_
  rintro bv w2 ⟨⟨ws, hws, hkey, hbv, hbl⟩, hx2⟩
  have hlin2 := hlin.to hx2
  have hT2 := hT1.to hx2
  have hwl : ws.length = m.length := by have := congrArg List.length hkey; simpa using this
  have hlp := linesP_body hws
  obtain ⟨i1, i2⟩ := readR_body (metB := metB) (lim := lim) (l := ws) 1 ⟨[], []⟩ hws
  simp only [List.length_nil, List.nil_append] at i1 i2
  clear hlin hms hT1
  refine rn ?_
  have hl9 : ∀ z ∈ linesP (bodyW ws), z.length ≤ 1000000 ∧ (z.length ≤ 3996 ∨ ∀ L, sampleP Num.intP z = some L → L.labs.length ≤ 999) := fun z hz => by
    rw [hlp] at hz
    obtain ⟨y, hy, rfl⟩ := List.mem_map.1 hz
    exact ⟨Nat.le_trans (text_le y hy) (by omega), .inr fun L hL => text_labs (hws y hy) hL⟩
  refine sCall c13 (bodyR_gen w2 bv (bodyW ws) lim hbv (by omega) hl9 hT2) ?_
  rintro r w3 hr
  have hx3 := hr.1
  obtain ⟨p, fv, at_, e, rfl, h3⟩ : ∃ p fv at_ e, r = .tuple ⟨[p, fv, .int .i64 at_, .int .i64 e]⟩ ∧ ((e = 0 ∧ ∃ l2 fams, rdR lim 1 ⟨[], []⟩ (ws.map Wl.text) = .ok ⟨l2.map smP, fams⟩ ∧ LinS w3 w2.heap.size p l2) ∨ (∃ k : Nat, rdR lim 1 ⟨[], []⟩ (ws.map Wl.text) = .error (k, e) ∧ at_ = k ∧ p = .slice none 0 0)) := by
    rw [← hlp]
    obtain ⟨_, ⟨lv, fv, l, fams, h1, rfl, h2, _⟩ | ⟨n, e, h1, rfl⟩⟩ := hr
    · exact ⟨_, _, _, _, rfl, .inl ⟨rfl, l, fams, h1, h2⟩⟩
    · exact ⟨_, _, _, _, rfl, .inr ⟨n, h1, rfl, rfl⟩⟩
  clear hr
  have hlin3 := hlin2.to hx3
  have hT3 := hT2.to hx3
  have hx03 := (hx1.trans hx2).trans hx3
  have hms := hlin3.ow.sli
  have hmo := hlin3.ow
  clear hlin2 hT2 hbv hT hx1 hx2 hx3
  unfold rdR at h3
  refine rn ?_
  rw [hmm]
  first | refine G.condD rfl (fun hc => ?_) (fun hc => ?_) | refine G.condN rfl (fun hc => ?_) (fun hc => ?_) | refine G.cond rfl (fun hc => ?_) (fun hc => ?_)
  · have hok := i1 (by omega)
    have h3' : e = 0 ∧ ∃ l2, l2.map smP = ws.map Wl.smp ∧ LinS w3 w2.heap.size p l2 := by
      rcases h3 with ⟨h0, l2, fams, h1, h2⟩ | ⟨k, h1, _, _⟩
      · rw [hok] at h1
        injection h1 with h1
        injection h1 with h1 _
        exact ⟨h0, l2, h1.symm, h2⟩
      · rw [hok] at h1; cases h1
    obtain ⟨rfl, l2, hl2, hlin4⟩ := h3'
    have hps := hlin4.ow.sli
    have hkl := keepLines_ok p mv l2 (m.map fixS) w3 hps (by rw [fix_smC]; exact hms) (fun x hx => (hlin4.lo x hx).sli) (fun x hx => by
      obtain ⟨y, hy, rfl⟩ := List.mem_map.1 hx
      exact (hlin3.lo y hy).sli) (by rw [hl2, fix_smP m hkey])
    refine rn ?_
    refine GL.cons (Step.on rfl rfl (Step.callO rfl rfl (by repeat (first | exact OpL.nil | refine OpL.cons (Op1.of rfl (by first | exact fun _ => rfl | exact fun _ => by simp [cv])) ?_)) c16 rfl hkl ?_))
    rintro _ w4 ⟨rfl, hx4⟩
    refine rn ?_
    refine sCallx c11 (fun hc => wakes_ok w4 (hT3.to hx4)) ?_
    intro w5 hx5
    refine rn ?_
    refine G.ret1 rfl rfl rfl rfl ?_
    exact ⟨rfl, (hx03.trans hx4).trans hx5⟩
  by_cases h0 : m.length = 0
  · have hw0 : ws = [] := List.eq_nil_of_length_eq_zero (by omega)
    subst hw0
    have h3' : e = 0 ∧ ∃ l2 : List Sm, l2.map smP = [] ∧ LinS w3 w2.heap.size p l2 := by
      rcases h3 with ⟨h0, l2, fams, h1, h2⟩ | ⟨k, h1, _, _⟩
      · simp only [List.map_nil, readR] at h1
        injection h1 with h1
        injection h1 with h1 _
        exact ⟨h0, l2, h1.symm, h2⟩
      · simp only [List.map_nil, readR] at h1
        cases h1
    obtain ⟨rfl, l2, hl2, hlin4⟩ := h3'
    have hps := hlin4.ow.sli
    rw [h0] at hmm
    refine rn ?_
    refine sCallx c11 (fun hc => wakes_ok w3 hT3) ?_
    intro w4 hx4
    refine rn ?_
    refine sCallx c11 (fun hc => wakes_ok w4 (hT3.to hx4)) ?_
    intro w5 hx5
    refine rn ?_
    refine G.ret1 rfl rfl rfl rfl ?_
    refine ⟨?_, (hx03.trans hx4).trans hx5⟩
    simp [h0]
  · have herr := i2 (by omega) (by omega)
    have h3' : e = 11 ∧ at_ = m.length ∧ p = .slice none 0 0 := by
      rcases h3 with ⟨_, l2, fams, h1, h2⟩ | ⟨k, h1, h2, h4⟩
      · rw [herr] at h1; cases h1
      · rw [herr] at h1
        injection h1 with h1
        injection h1 with h1 h5
        exact ⟨h5.symm, by omega, h4⟩
    obtain ⟨rfl, rfl, rfl⟩ := h3'
    have hnil : Sli w3 (.slice none 0 0) 4 [] := Sli.nil _ _
    refine rn ?_
    refine sCallx c11 (fun hc => wakes_ok w3 hT3) ?_
    intro w4 hx4
    refine rn ?_
    refine sCallx c11 (fun hc => wakes_ok w4 (hT3.to hx4)) ?_
    intro w5 hx5
    refine rn ?_
    refine G.ret1 rfl rfl rfl rfl ?_
    refine ⟨?_, (hx03.trans hx4).trans hx5⟩
    simp [hmm]
end Go.Proofs.YtcngoccnfmhhnaaGreatDoor
end
section
namespace Go.Vg
open Go.RowKit Go.WideShapes Go.ChangeShapes
theorem open_bool1 {H : Type} {enc : TypeId × Value → H} {P : Program} {w : World} {b : Nat} {sp : Nat → Bool} {hd : Bool} {t n : Nat} {cs : List Value} {x : DataW H × List MemPlace}
    (ht : P.underlying t = some .bool) (h : DataW.trod enc P w b sp hd n t cs = some x) : ∃ m : Bool, cs = [.bool m] := by
  obtain ⟨m, rfl, _⟩ := DataW.trod_bool ht h
  exact ⟨m, rfl⟩
end Go.Vg
end
section
namespace Go.Vg
open Go.RowKit Go.WideShapes Go.ChangeShapes Go.Deep Go

theorem spot_of_cell {w : World} {a : Addr} {u : Value} (h : w.cell? a = some u) : a.spot = none := by
  unfold World.cell? at h
  split at h
  · split at h
    · cases h
    · rename_i hs
      cases hsp : a.spot with
      | none => rfl
      | some s => rw [hsp] at hs; simp at hs
  · cases h
theorem add_zero' (a : Addr) : a.add 0 = a := by simp [Addr.add]
theorem open_sliC {H : Type} {enc : TypeId × Value → H} {P : Program} {w : World} {hd : Bool} {t e k n0 : Nat} {α : Type} {c : Value} {x0 : DataW H × List MemPlace} (dec : α → List Value) (Q : α → Prop)
    (ht : P.underlying t = some (.slice e)) (hc : P.cellsOf e = k) (hk : 0 < k) (hel : ∀ n cs x, DataW.trod enc P w 0 (fun _ => true) hd n e cs = some x → ∃ a, cs = dec a ∧ Q a)
    (h : DataW.trod enc P w 0 (fun _ => true) hd n0 t [c] = some x0) : ∃ ls : List α, (Sli w c k (ls.map dec) ∨ ls = [] ∧ ∃ a, c = .slice (some a) 0 0) ∧ ∀ a ∈ ls, Q a := by
  rcases Go.Deep.open_slice ht h with ⟨h1, _⟩ | ⟨a, len, cap, m, n, D, Pl, h1, hb, hl, hm, hmm, _, hx⟩
  · have h2 : c = .slice none 0 0 := by simpa using h1
    exact ⟨[], .inl (.inl ⟨h2, rfl⟩), by simp⟩
  · have h2 : c = .slice (some a) len cap := by simpa using h1
    subst h2
    rw [if_pos rfl] at hmm
    subst hmm
    by_cases h0 : m = 0
    · subst h0
      obtain rfl : len = 0 := by omega
      exact ⟨[], .inr ⟨rfl, a, rfl⟩, by simp⟩
    have hspot : a.spot = none := by
      obtain ⟨cs, h3, _⟩ := hx 0 (by omega)
      rw [hc] at h3
      obtain ⟨_, h5, h6⟩ := World.cells?_some h3
      have := h6 0 (by omega)
      rw [Nat.zero_mul, add_zero', add_zero'] at this
      have hlt : 0 < cs.length := by omega
      rw [List.getElem?_eq_getElem hlt] at this
      exact spot_of_cell this
    have each : ∀ i, i < len → ∃ x : α, w.cells? 0 (a.add (i * k)) k = some (dec x) ∧ Q x := by
      intro i hi
      obtain ⟨cs, h3, h4⟩ := hx i (by omega)
      rw [hc] at h3
      obtain ⟨x, rfl, hq⟩ := hel n cs _ h4
      exact ⟨x, h3, hq⟩
    have build : ∀ l, l ≤ len → ∃ ls : List α, ls.length = l ∧ (∀ i x, ls[i]? = some x → w.cells? 0 (a.add (i * k)) k = some (dec x) ∧ Q x) := by
      intro l
      induction l with
      | zero => intro _; exact ⟨[], rfl, by simp⟩
      | succ l ih =>
        intro hl'
        obtain ⟨ls, h5, h6⟩ := ih (by omega)
        obtain ⟨x, h7⟩ := each l (by omega)
        refine ⟨ls ++ [x], by simp [h5], fun i y hy => ?_⟩
        by_cases hi : i < ls.length
        · rw [List.getElem?_append_left hi] at hy; exact h6 i y hy
        · have hil : i = l := by
            have := (List.getElem?_eq_some_iff.1 hy).1
            simp at this; omega
          subst hil
          rw [List.getElem?_append_right (by omega), h5, Nat.sub_self] at hy
          cases hy; exact h7
    obtain ⟨ls, h5, h6⟩ := build len (Nat.le_refl _)
    refine ⟨ls, .inl (.inr ⟨a, m, by rw [List.length_map, h5], hspot, by rw [List.length_map, h5]; exact hl, ?_, ?_, ?_⟩), ?_⟩
    · intro x hx'
      obtain ⟨y, hy, rfl⟩ := List.mem_map.1 hx'
      obtain ⟨i, hi⟩ := List.getElem?_of_mem hy
      exact (World.cells?_some (h6 i y hi).1).2.1
    · intro i x hx' j u hu
      simp only [List.getElem?_map, Option.map_eq_some_iff] at hx'
      obtain ⟨y, hy, rfl⟩ := hx'
      obtain ⟨_, h8, h9⟩ := World.cells?_some (h6 i y hy).1
      have hj : j < k := by have := (List.getElem?_eq_some_iff.1 hu).1; omega
      have := h9 j hj
      rw [hu, Addr.add_add a hspot] at this
      exact this
    · rw [List.length_map, h5]; unfold maxLen at hm; omega
    · intro x hx'
      obtain ⟨i, hi⟩ := List.getElem?_of_mem hx'
      exact (h6 i x hi).2
theorem open_rowN {H : Type} {enc : TypeId × Value → H} {P : Program} {w : World} {base : Nat} {spare : Nat → Bool} {held : Bool} {t m n0 : Nat} {fs : Array Field} {cs : List Value} {x : DataW H × List MemPlace} (hs : P.underlying t = some (.struct fs)) (hone : oneCellFields P fs = true) (hC : P.cellsOf t = m)
    (h : DataW.trod enc P w base spare held n0 t cs = some x) :
    cs.length = m ∧ ∃ n : Nat, ∀ (i : Nat) (f : Field) (c : Value), fs[i]? = some f → cs[i]? = some c → ∃ y, DataW.trod enc P w base spare held n f.type [c] = some y := by
  obtain ⟨xs, n, _, hx, hl, hlen, hf⟩ := DataW.trod_struct hs h
  refine ⟨by omega, n, fun i f c hi hc => ?_⟩
  obtain ⟨o, k⟩ := hone_of hone i f (by simpa using hi)
  have h1 := hf i f (by simpa using hi)
  have hlt : i < xs.length := by
    rw [hlen]
    have := (Array.getElem?_eq_some_iff.1 hi).1
    simpa using this
  refine ⟨xs[i], ?_⟩
  have hcs : (cs.drop i).take 1 = [c] := by
    have hi2 := List.getElem?_eq_some_iff.1 hc
    obtain ⟨h2, rfl⟩ := hi2
    rw [List.drop_eq_getElem_cons h2]; rfl
  simpa [o, k, hcs, hlt] using h1
theorem open_f64 {H : Type} {enc : TypeId × Value → H} {P : Program} {w : World} {base : Nat} {sp : Nat → Bool} {hd : Bool} {t n : Nat} {cs : List Value} {x : DataW H × List MemPlace}
    (ht : P.underlying t = some (.float .f64)) (h : DataW.trod enc P w base sp hd n t cs = some x) : ∃ b : Nat, cs = [.float .f64 b] ∧ b < 2 ^ 64 := by
  cases n with
  | zero => simp [DataW.trod] at h
  | succ n =>
    unfold DataW.trod at h
    rw [ht] at h
    split at h <;> simp_all
    rename_i k k' b heq
    subst heq
    simpa [Lit.wf] using h.1.2
end Go.Vg
end
section
open Go Go.Vg Go.RowKit Go.Proofs Go.Proofs.YtcngoccnfmhhnaaGreatDoor
namespace Go.Proofs.YtcngoccnfmhhnaaGreatDoor
open Go.Lib Go.Shelf Go.ChangeShapes Go.WideShapes Go.ChangeAt

theorem open_lines {H : Type} {enc : TypeId × Value → H} {w : World} {hd : Bool} {b : Nat} {v : Value} {d : DataW H} {p : List MemPlace}
    (hval : OkW Tryz.prog w b 32 v) (h : DataW.Trod enc Tryz.prog w 0 (fun _ => true) hd 32 v d p) : ∃ ls : List Rl, Sli w v 4 (ls.map rlcC) ∧ ∀ x ∈ ls, RlOk w x := by
  refine open_rows (t := 32) (e := 44) rlcC (RlOk w) (tb.ok _ _ rfl) (by kernel_rfl) (fun n cs x hx => ?_) hval h
  obtain ⟨hl, n', hf⟩ := open_rowN (tb.ok _ _ rfl) (by kernel_rfl) (m := 4) (by kernel_rfl) hx
  match cs, hl with
  | [c0, c1, c2, c3], _ =>
    obtain ⟨y0, k0⟩ := hf 0 _ c0 rfl rfl
    obtain ⟨y1, k1⟩ := hf 1 _ c1 rfl rfl
    obtain ⟨y2, k2⟩ := hf 2 _ c2 rfl rfl
    obtain ⟨y3, k3⟩ := hf 3 _ c3 rfl rfl
    obtain ⟨m, hm, hmw⟩ := open_int1 (tb.ok _ _ rfl) k2
    simp only [List.cons.injEq, and_true] at hm
    subst hm
    obtain ⟨fb, hfb, hfw⟩ := open_f64 (tb.ok _ _ rfl) k1
    simp only [List.cons.injEq, and_true] at hfb
    subst hfb
    obtain ⟨bb, hbb⟩ := open_bool1 (tb.ok _ _ rfl) k3
    simp only [List.cons.injEq, and_true] at hbb
    subst hbb
    obtain ⟨ls, h1, h2⟩ := open_sliC (t := 41) (e := 76) (k := 2) Lab.labC Lab.LabSz (tb.ok _ _ rfl) (by kernel_rfl) (by decide) (fun n cs x hx => by
      obtain ⟨u0, u1, n, y0, y1, rfl, k0, k1⟩ := open_st2 (tb.ok _ _ rfl) (by kernel_rfl) rfl rfl (by kernel_rfl) (by kernel_rfl) hx
      obtain ⟨a, ha, hla⟩ := open_str (tb.ok _ _ rfl) k0
      obtain ⟨c, hc, hlc⟩ := open_str (tb.ok _ _ rfl) k1
      cases ha; cases hc
      exact ⟨(a, c), rfl, hla, hlc⟩) k0
    exact ⟨⟨c0, fb, m, bb, ls⟩, rfl, hfw, wf_i64 hmw, h2, h1⟩
end Go.Proofs.YtcngoccnfmhhnaaGreatDoor
end
section
open Go Go.Vg Go.RowKit Go.Proofs Go.Proofs.YtcngoccnfmhhnaaGreatDoor
namespace Go.Proofs.YtcngoccnfmhhnaaGreatDoor
open Go.Lib Go.Shelf Go.ChangeShapes Go.WideShapes Go.ChangeAt

theorem own : ownKnob Tryz.prog.godebug = none := by kernel_rfl
theorem laidOut : laidOutB Tryz.prog = true := by kernel_rfl
def laidL : List (String × DataW Unit) := [("unicode/utf8.acceptRanges", Rows.laid_unicode_utf8_acceptRanges), ("unicode/utf8.first", Rows.laid_unicode_utf8_first)]
theorem acc_eq : Rows.laid_unicode_utf8_acceptRanges (H := Unit) = Lib.acceptData := by kernel_rfl
theorem laidL_eq : laidL = [("unicode/utf8.acceptRanges", Lib.acceptData), ("unicode/utf8.first", Lib.firstData)] := by
  unfold laidL Rows.laid_unicode_utf8_first
  rw [acc_eq, Pinned.utf8First_eq]
theorem tabs {W : World} (hL : laidMetH Tryz.prog laidL W) : Tabs W := by
  rw [laidL_eq] at hL
  exact utf8Tabs_of_readsT (U8Types.of196 Tryz.laysValid) ⟨by kernel_rfl, by kernel_rfl, by kernel_rfl, by kernel_rfl, by kernel_rfl, by kernel_rfl, by kernel_rfl⟩ (Lib.laidMet.reads hL (.tail _ (.head _))) (Lib.laidMet.reads hL (.head _))

/-- a world that holds the tables -/
noncomputable def laidWorld (os : Os) : World :=
  let w0 := World.holding Tryz.prog os ⟨#[], #[], []⟩
  let put (h : Array Obj) (g : Nat) (cs : Array Value) : Array Obj := h.modify g fun
    | .cells _ t frozen => .cells cs t frozen
    | o => o
  let h1 := put w0.heap 2 (Lib.firstTab.map fun z => Value.int .u8 z).toArray
  let h2 := put h1 3 ((List.range 16).flatMap fun i => [Value.int .u8 (Lib.accLo i), Value.int .u8 (Lib.accHi i)]).toArray
  { w0 with heap := h2 }
set_option maxRecDepth 100000 in
theorem laid_met (os : Os) (args : Array Value) : laidMet Tryz.prog laidL ((laidWorld os).forCall (fun _ _ => 0) ⟨#[], args, []⟩).memory := by
  rewrite [laidL_eq]
  exact (LaidIn.of_run (l := [("unicode/utf8.acceptRanges", Lib.acceptData), ("unicode/utf8.first", Lib.firstData)]) [2, 3] 8 (by kernel_rfl) (by kernel_rfl) (by kernel_rfl) (by kernel_rfl)).met

end Go.Proofs.YtcngoccnfmhhnaaGreatDoor
end
section
open Go Go.Vg Go.RowKit Go.Proofs Go.Proofs.YtcngoccnfmhhnaaGreatDoor
namespace Go.Proofs.YtcngoccnfmhhnaaGreatDoor
open Go.Lib Go.Shelf Go.ChangeShapes Go.WideShapes Go.ChangeAt

set_option maxRecDepth 100000 in
theorem contract_expoLimit (H : Type) (enc : TypeId × Value → H) (W : World) (base : Nat) (args : Array Value) (ds gs : List (DataW H)) (before : List MemPlace)
    (hval : ∀ (j : Nat) t v, Tryz.f6.params[j]? = some t → args[j]? = some v → Value.okWide Tryz.prog W .any base t v)
    (hW : DataW.Whole enc Tryz.prog Tryz.f6.params.toList Rows.expoLimitSpec.vars false W args.toList ds gs before) (hL : laidMetH Tryz.prog Rows.expoLimitRow.laid W) :
    Calls Tryz.prog 6 args W fun e W' => ∃ v, e = .returned v ∧ Rows.expoLimitSpec.post enc Tryz.prog Tryz.f6 false true false false W args v W' := by
  have hW' := hW
  obtain ⟨p, q, hA0, hV, rfl, hfz, hnd⟩ := hW
  have hA : DataW.TrodAll enc Tryz.prog W 0 (fun _ => true) true Tryz.f6.params.toList args.toList ds p := hA0
  rw [Tryz.params6] at hA hval
  obtain ⟨v0, vs0, d0, ds0, p0, q0, hargs, rfl, rfl, h0, r0⟩ := trodAll_cons hA
  obtain ⟨v1, vs1, d1, ds1, p1, q1, rfl, rfl, rfl, h1, r1⟩ := trodAll_cons r0
  obtain ⟨rfl, rfl, rfl⟩ := trodAll_nil r1
  obtain rfl : args = #[v0, v1] := by cases args; simp_all
  have k0 := OkW.mk (hval 0 _ v0 rfl rfl)
  have k1 := OkW.mk (hval 1 _ v1 rfl rfl)
  obtain ⟨x0, hx0, hz0⟩ := open_lines k0 h0
  obtain ⟨n1, rfl, hn1⟩ := openI (tb.ok _ _ rfl) k1 h1
  refine Calls.mono (limit_law v0 x0 n1 W hx0 hz0 (tabs hL)) ?_
  rintro e W' ⟨v, rfl, rfl, hx⟩
  exact ⟨_, rfl, law_post laidOut (by kernel_rfl) (tb := 4) rfl (tb.ok _ _ rfl) rfl hW' rfl hx⟩
theorem reads_expoLimit (os : Os) {H : Type} (enc : TypeId × Value → H) : ∃ places, DataW.whole enc Tryz.prog ((laidWorld os).forCall (fun _ _ => 0) ⟨#[], #[.slice none 0 0, .int .i64 0], []⟩).memory Tryz.f6.params.toList Rows.expoLimitSpec.vars false #[.slice none 0 0, .int .i64 0].toList 8 = some ([.nil, .lit (.int .i64 0)], [], places) :=
  ⟨[], by kernel_rfl⟩
set_option maxRecDepth 100000 in
theorem lifted_expoLimit (os : Os) (started : os.Started) (H : Type) (enc : TypeId × Value → H) (F : Stop.Interp) :
    ReturnsInHanded {} Tryz.checked os 6 .any ((OpenSpec.ofChange Rows.expoLimitSpec).preRow enc Tryz.prog Tryz.f6 Rows.expoLimitRow.domain false Rows.expoLimitRow.laid) (((OpenSpec.ofChange Rows.expoLimitSpec).at F).post enc Tryz.prog Tryz.f6 false true false false) := by
  obtain ⟨places, hx⟩ := reads_expoLimit os enc
  refine returnsInHanded_of_row (C := Tryz.checked) (s := OpenSpec.ofChange Rows.expoLimitSpec) own started (by kernel_rfl) Tryz.func6
    (witness_row_at (enc := enc) (C := Tryz.checked) false (laidWorld os) #[.slice none 0 0, .int .i64 0] rfl (by kernel_rfl) (by kernel_rfl) (by kernel_rfl)
      (OpenSpec.preRow_of_cond 8 hx (by kernel_rfl) (fun k hk => by cases hk) (by kernel_rfl) (laid_met os _))) ?_
  intro W base args ds gs before hval hW _ _ _ hL _ _
  exact contract_expoLimit H enc W base args ds gs before hval hW hL
theorem said_expoLimit : Rows.ExpoLimitSaid :=
  OpenClaim.holds_of_cond 6 Tryz.f6 rfl rfl rfl rfl rfl rfl rfl ⟨rfl, rfl, rfl, rfl, rfl⟩ rfl rfl rfl rfl rfl (by kernel_rfl) Tryz.func6 (by kernel_rfl)
    (of_decide_eq_true (by kernel_rfl)) (by unfold Func.isWrapper; first | (rw [if_pos (by decide +kernel)]; kernel_rfl) | (rw [if_neg (by decide +kernel)]; exact ⟨rfl, rfl⟩))
    (fun os started H enc _ F => by rw [OpenClaim.pre_eq_preRow]; exact lifted_expoLimit os started H enc F)
theorem plain_expoLimit (f : FuncId) (fn : Func) (hf : Tryz.pinned.checked.prog.funcNamed "vigil/vigillaw11.ExpoLimit" = some f) (hfn : Tryz.pinned.checked.prog.funcs[f]? = some fn) :
    true = Tryz.pinned.checked.prog.looks [] ∧ ∀ (j : Nat) t, fn.params[j]? = some t → Tryz.pinned.checked.prog.wantsStandIn t = false := by
  obtain rfl : f = 6 := Option.some.inj ((show Tryz.prog.funcNamed "vigil/vigillaw11.ExpoLimit" = some 6 by kernel_rfl).symm.trans hf) |>.symm
  obtain rfl : fn = Tryz.f6 := (Option.some.inj (Tryz.func6.symm.trans hfn)).symm
  refine ⟨by kernel_rfl, fun j t ht => ?_⟩
  rw [Tryz.params6] at ht
  have hm : t ∈ #[32, 3] := Array.mem_of_getElem? ht
  simp only [List.mem_toArray, List.mem_cons, List.not_mem_nil, or_false] at hm
  rcases hm with rfl | rfl
  · exact (show Tryz.prog.wantsStandIn 32 = false by kernel_rfl)
  · exact (show Tryz.prog.wantsStandIn 3 = false by kernel_rfl)
/-- ExpoLimit: a body of just so many samples is taken, of one more refused. -/
theorem ExpoLimit_holds : Rows.ExpoLimitCardSaid :=
  Claim7.holds_tied_plain_at .later [] _ _ _ _ said_expoLimit (fun _ h => by cases h) (by kernel_rfl) (fun _ h => by cases h) expoLimit_row_tie rfl ⟨rfl, rfl⟩ (by kernel_rfl) rfl plain_expoLimit (by kernel_rfl)
end Go.Proofs.YtcngoccnfmhhnaaGreatDoor
end
