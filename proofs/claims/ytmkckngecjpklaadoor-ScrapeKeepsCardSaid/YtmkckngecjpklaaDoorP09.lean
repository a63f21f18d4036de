/- Part of the proof of a statement about the given program. -/
import Derived.Test.YtmkckngecjpklaaDoorP08
import Derived.Lib.ValidLaws
import Derived.Lib.SmallJoins
section
open Go Go.Vg Go.RowKit Go.Proofs Go.Proofs.YtmkckngecjpklaaDoor
namespace Go.Proofs.YtmkckngecjpklaaDoor
set_option linter.unusedSimpArgs false

theorem hp1_ok (s : List UInt8) (b : UInt8) (w : World) : Ret Tryd.prog 60 ⟨[S s, S [b]]⟩ w fun r w' => r = .bool (Rx.isB s 0 b) ∧ Ext w w' :=
  Calls.mono (Any.strings_HasPrefix Tryd.lays99 ⟨⟨s⟩⟩ ⟨⟨[b]⟩⟩ w) fun _ _ ⟨he, hw⟩ => ⟨_, he, by
    show Value.bool (Lib.hasPrefix s [b]) = _
    congr 1
    unfold Lib.hasPrefix Rx.isB
    rw [Bool.eq_iff_iff]
    rcases s with _ | ⟨x, r⟩ <;> simp
    exact ⟨fun h => h.symm, fun h => h.symm⟩, by rw [hw]; exact Ext.refl _⟩
theorem isB_drop (s : List UInt8) (a : Nat) (b : UInt8) : Rx.isB (s.drop a) 0 b = Rx.isB s a b := by
  unfold Rx.isB
  rw [Rx.getD_drop, Nat.add_zero, List.length_drop]
  congr 1
  rw [Bool.eq_iff_iff, decide_eq_true_eq, decide_eq_true_eq]
  omega
theorem digits_ok (s : List UInt8) (w : World) (hs : s.length ≤ 1000000) :
    Ret Tryd.prog 79 ⟨[S s]⟩ w fun r w' => r = .int .i64 (Rx.digitsP s) ∧ Ext w w' := by
  refine ret_of_G Tryd.func79 rfl Tryd.ntmps79 rfl ?_
  simp only [argEnv]
  try (first | refine gl tb ?_ | refine gg tb ?_ | refine ll tb ?_ | refine lg tb ?_); repeat ((first | refine G.condT rfl ?_ | refine G.condF rfl ?_ | refine sFa tb ?_ | refine sLd tb ?_ | refine sLa tb ?_ | refine sLen tb ?_ | refine sFd tb ?_ | refine sBd tb ?_ | refine sBa tb ?_); try (first | refine gl tb ?_ | refine gg tb ?_ | refine ll tb ?_ | refine lg tb ?_))
  refine (G.loop (fun x : Nat × Nat => [(0, none, S s), (3, none, .int .i64 x.2)]) (fun x W => Ext w W ∧ x.2 ≤ s.length ∧ s.length - x.2 ≤ x.1 ∧ Rx.digN s x.1 x.2 = Rx.digitsP s) (fun x => x.1) (s.length, 0) (by repeat (first | exact Sub.nil _ | refine Sub.cons rfl ?_)) ⟨Ext.refl _, Nat.zero_le _, by simp only; omega, rfl⟩ ?_)
  rintro ⟨n, i⟩ W ⟨hx, hi, hn, hL⟩
  simp only at hi hn hL
  show G _ _ [(0, none, S s), (3, none, .int .i64 i)] W
  have hp : ∀ {c : Bool}, (decide ((i : Int) < s.length) && c) = true → i < s.length := fun {c} h => by
    rw [Bool.and_eq_true, decide_eq_true_eq] at h
    omega
  have hp0 : decide ((i : Int) < s.length) = true → i < s.length := fun h => by
    rw [decide_eq_true_eq] at h
    omega
  try (first | refine gl tb ?_ | refine gg tb ?_ | refine ll tb ?_ | refine lg tb ?_); repeat ((first | refine G.condT rfl ?_ | refine G.condF rfl ?_ | refine sFa tb ?_ | refine sLd tb ?_ | refine sLa tb ?_ | refine sLen tb ?_ | refine sFd tb ?_ | refine sBd tb ?_ | refine sBa tb ?_); try (first | refine gl tb ?_ | refine gg tb ?_ | refine ll tb ?_ | refine lg tb ?_))
  refine GL.cons (Step.indexS tb i rfl (Op1.of rfl (by first | exact fun _ => rfl | exact fun h => h | exact fun h => bL h | exact fun h => bL (bL h) | exact fun h => bL (bL (bL h)))) (Op1.of rfl (by first | exact fun _ => rfl | exact fun h => h | exact fun h => bL h | exact fun h => bL (bL h) | exact fun h => bL (bL (bL h)))) rfl (fun hc => ⟨rfl, hp0 hc⟩) rfl ?_)
  try (first | refine gl tb ?_ | refine gg tb ?_ | refine ll tb ?_ | refine lg tb ?_); repeat ((first | refine G.condT rfl ?_ | refine G.condF rfl ?_ | refine sFa tb ?_ | refine sLd tb ?_ | refine sLa tb ?_ | refine sLen tb ?_ | refine sFd tb ?_ | refine sBd tb ?_ | refine sBa tb ?_); try (first | refine gl tb ?_ | refine gg tb ?_ | refine ll tb ?_ | refine lg tb ?_))
  refine GL.cons (Step.indexS tb i rfl (Op1.of rfl (by first | exact fun _ => rfl | exact fun h => h | exact fun h => bL h | exact fun h => bL (bL h) | exact fun h => bL (bL (bL h)))) (Op1.of rfl (by first | exact fun _ => rfl | exact fun h => h | exact fun h => bL h | exact fun h => bL (bL h) | exact fun h => bL (bL (bL h)))) rfl (fun hc => ⟨rfl, hp hc⟩) rfl ?_)
  try (first | refine gl tb ?_ | refine gg tb ?_ | refine ll tb ?_ | refine lg tb ?_); repeat ((first | refine G.condT rfl ?_ | refine G.condF rfl ?_ | refine sFa tb ?_ | refine sLd tb ?_ | refine sLa tb ?_ | refine sLen tb ?_ | refine sFd tb ?_ | refine sBd tb ?_ | refine sBa tb ?_); try (first | refine gl tb ?_ | refine gg tb ?_ | refine ll tb ?_ | refine lg tb ?_))
  first | refine G.condD rfl (fun hc => ?_) (fun hc => ?_) | refine G.condN rfl (fun hc => ?_) (fun hc => ?_) | refine G.cond rfl (fun hc => ?_) (fun hc => ?_)
  · have hc' : i < s.length ∧ 48 ≤ (s.getD i 0).toNat ∧ (s.getD i 0).toNat ≤ 57 := by
      simp only [Bool.and_eq_true, decide_eq_true_eq] at hc
      omega
    obtain ⟨n, rfl⟩ : ∃ m, n = m + 1 := ⟨n - 1, by omega⟩
    rw [Rx.digN, if_pos hc'] at hL
    try (first | refine gl tb ?_ | refine gg tb ?_ | refine ll tb ?_ | refine lg tb ?_); repeat ((first | refine G.condT rfl ?_ | refine G.condF rfl ?_ | refine sFa tb ?_ | refine sLd tb ?_ | refine sLa tb ?_ | refine sLen tb ?_ | refine sFd tb ?_ | refine sBd tb ?_ | refine sBa tb ?_); try (first | refine gl tb ?_ | refine gg tb ?_ | refine ll tb ?_ | refine lg tb ?_))
    refine sAd tb (r := ((i + 1 : Nat) : Int)) ?_
    try (first | refine gl tb ?_ | refine gg tb ?_ | refine ll tb ?_ | refine lg tb ?_); repeat ((first | refine G.condT rfl ?_ | refine G.condF rfl ?_ | refine sFa tb ?_ | refine sLd tb ?_ | refine sLa tb ?_ | refine sLen tb ?_ | refine sFd tb ?_ | refine sBd tb ?_ | refine sBa tb ?_); try (first | refine gl tb ?_ | refine gg tb ?_ | refine ll tb ?_ | refine lg tb ?_))
    exact G.lp (x := (n + 1, i)) (n, i + 1) (by repeat (first | exact Sub.nil _ | refine Sub.cons rfl ?_)) ⟨hx, by simp only; omega, by simp only; omega, hL⟩ (by simp only; omega)
  · have hc' : ¬ (i < s.length ∧ 48 ≤ (s.getD i 0).toNat ∧ (s.getD i 0).toNat ≤ 57) := by
      rintro ⟨h1, h2, h3⟩
      simp only [Bool.and_eq_false_iff, decide_eq_false_iff_not] at hc
      omega
    have hi' : i = Rx.digitsP s := by
      rw [← hL]
      cases n with
      | zero => rfl
      | succ n => rw [Rx.digN, if_neg hc']
    try (first | refine gl tb ?_ | refine gg tb ?_ | refine ll tb ?_ | refine lg tb ?_); repeat ((first | refine G.condT rfl ?_ | refine G.condF rfl ?_ | refine sFa tb ?_ | refine sLd tb ?_ | refine sLa tb ?_ | refine sLen tb ?_ | refine sFd tb ?_ | refine sBd tb ?_ | refine sBa tb ?_); try (first | refine gl tb ?_ | refine gg tb ?_ | refine ll tb ?_ | refine lg tb ?_))
    refine G.ret1 rfl rfl rfl rfl ?_
    exact ⟨by rw [hi'], hx⟩
set_option maxHeartbeats 4000000 in
theorem named_ok (s : List UInt8) (w : World) (hs : s.length ≤ 1000000) :
    Ret Tryd.prog 61 ⟨[S s]⟩ w fun r w' => r = .tuple ⟨[.int .i64 (Rx.namedP s).1, .int .i64 (Rx.namedP s).2]⟩ ∧ Ext w w' := by
  have hs0 : ∀ {c : Bool}, (!decide (s = []) && c) = true → 0 < s.length := fun {c} h => by
    rw [Bool.and_eq_true, Bool.not_eq_true', decide_eq_false_iff_not] at h
    exact List.length_pos_iff.2 h.1
  have hs1 : (!decide (s = [])) = true → 0 < s.length := fun h => by
    rw [Bool.not_eq_true', decide_eq_false_iff_not] at h
    exact List.length_pos_iff.2 h
  refine ret_of_G Tryd.func61 rfl Tryd.ntmps61 rfl ?_
  simp only [argEnv]
  try (first | refine gl tb ?_ | refine gg tb ?_ | refine ll tb ?_ | refine lg tb ?_); repeat ((first | refine G.condT rfl ?_ | refine G.condF rfl ?_ | refine sFa tb ?_ | refine sLd tb ?_ | refine sLa tb ?_ | refine sLen tb ?_ | refine sFd tb ?_ | refine sBd tb ?_ | refine sBa tb ?_); try (first | refine gl tb ?_ | refine gg tb ?_ | refine ll tb ?_ | refine lg tb ?_))
  refine GL.cons (Step.indexS tb 0 rfl (Op1.of rfl (by first | exact fun _ => rfl | exact fun h => h | exact fun h => bL h | exact fun h => bL (bL h) | exact fun h => bL (bL (bL h)))) (Op1.of rfl (by first | exact fun _ => rfl | exact fun h => h | exact fun h => bL h | exact fun h => bL (bL h) | exact fun h => bL (bL (bL h)))) rfl (fun hc => ⟨rfl, hs1 hc⟩) rfl ?_)
  try (first | refine gl tb ?_ | refine gg tb ?_ | refine ll tb ?_ | refine lg tb ?_); repeat ((first | refine G.condT rfl ?_ | refine G.condF rfl ?_ | refine sFa tb ?_ | refine sLd tb ?_ | refine sLa tb ?_ | refine sLen tb ?_ | refine sFd tb ?_ | refine sBd tb ?_ | refine sBa tb ?_); try (first | refine gl tb ?_ | refine gg tb ?_ | refine ll tb ?_ | refine lg tb ?_))
  refine GL.cons (Step.indexS tb 0 rfl (Op1.of rfl (by first | exact fun _ => rfl | exact fun h => h | exact fun h => bL h | exact fun h => bL (bL h) | exact fun h => bL (bL (bL h)))) (Op1.of rfl (by first | exact fun _ => rfl | exact fun h => h | exact fun h => bL h | exact fun h => bL (bL h) | exact fun h => bL (bL (bL h)))) rfl (fun hc => ⟨rfl, hs0 hc⟩) rfl ?_)
  try (first | refine gl tb ?_ | refine gg tb ?_ | refine ll tb ?_ | refine lg tb ?_); repeat ((first | refine G.condT rfl ?_ | refine G.condF rfl ?_ | refine sFa tb ?_ | refine sLd tb ?_ | refine sLa tb ?_ | refine sLen tb ?_ | refine sFd tb ?_ | refine sBd tb ?_ | refine sBa tb ?_); try (first | refine gl tb ?_ | refine gg tb ?_ | refine ll tb ?_ | refine lg tb ?_))
  first | refine G.condD rfl (fun hc => ?_) (fun hc => ?_) | refine G.condN rfl (fun hc => ?_) (fun hc => ?_) | refine G.cond rfl (fun hc => ?_) (fun hc => ?_)
  · have hc' : 0 < s.length ∧ 49 ≤ (s.getD 0 0).toNat ∧ (s.getD 0 0).toNat ≤ 57 := by
      simp only [Bool.and_eq_true, Bool.not_eq_true', decide_eq_true_eq, decide_eq_false_iff_not] at hc
      have := List.length_pos_iff.2 hc.1.1
      omega
    have hP : Rx.namedP s = ((s.getD 0 0).toNat - 48, 1) := by unfold Rx.namedP; rw [if_pos hc']
    rw [hP]
    try (first | refine gl tb ?_ | refine gg tb ?_ | refine ll tb ?_ | refine lg tb ?_); repeat ((first | refine G.condT rfl ?_ | refine G.condF rfl ?_ | refine sFa tb ?_ | refine sLd tb ?_ | refine sLa tb ?_ | refine sLen tb ?_ | refine sFd tb ?_ | refine sBd tb ?_ | refine sBa tb ?_); try (first | refine gl tb ?_ | refine gg tb ?_ | refine ll tb ?_ | refine lg tb ?_))
    refine sBs tb 0 ?_
    try (first | refine gl tb ?_ | refine gg tb ?_ | refine ll tb ?_ | refine lg tb ?_); repeat ((first | refine G.condT rfl ?_ | refine G.condF rfl ?_ | refine sFa tb ?_ | refine sLd tb ?_ | refine sLa tb ?_ | refine sLen tb ?_ | refine sFd tb ?_ | refine sBd tb ?_ | refine sBa tb ?_); try (first | refine gl tb ?_ | refine gg tb ?_ | refine ll tb ?_ | refine lg tb ?_))
    refine GL.cons (Step.arith (k := .u8) (a := (s.getD 0 0).toNat) (r := ((s.getD 0 0).toNat - 48 : Nat)) rfl (Op1.of rfl (by first | exact fun _ => rfl | exact fun h => h | exact fun h => bL h | exact fun h => bL (bL h) | exact fun h => bL (bL (bL h)))) (Op1.of rfl (by first | exact fun _ => rfl | exact fun h => h | exact fun h => bL h | exact fun h => bL (bL h) | exact fun h => bL (bL (bL h)))) (by show IntKind.u8.wrap _ = _; rw [wrap_u8 (by omega) (by omega)]; omega) rfl ?_)
    try (first | refine gl tb ?_ | refine gg tb ?_ | refine ll tb ?_ | refine lg tb ?_); repeat ((first | refine G.condT rfl ?_ | refine G.condF rfl ?_ | refine sFa tb ?_ | refine sLd tb ?_ | refine sLa tb ?_ | refine sLen tb ?_ | refine sFd tb ?_ | refine sBd tb ?_ | refine sBa tb ?_); try (first | refine gl tb ?_ | refine gg tb ?_ | refine ll tb ?_ | refine lg tb ?_))
    refine sCv tb (r := (((s.getD 0 0).toNat - 48 : Nat) : Int)) ?_
    try (first | refine gl tb ?_ | refine gg tb ?_ | refine ll tb ?_ | refine lg tb ?_); repeat ((first | refine G.condT rfl ?_ | refine G.condF rfl ?_ | refine sFa tb ?_ | refine sLd tb ?_ | refine sLa tb ?_ | refine sLen tb ?_ | refine sFd tb ?_ | refine sBd tb ?_ | refine sBa tb ?_); try (first | refine gl tb ?_ | refine gg tb ?_ | refine ll tb ?_ | refine lg tb ?_))
    refine G.ret2 rfl rfl rfl rfl rfl ?_
    exact ⟨rfl, Ext.refl _⟩
  have hc1 : ¬ (0 < s.length ∧ 49 ≤ (s.getD 0 0).toNat ∧ (s.getD 0 0).toNat ≤ 57) := by
    rintro ⟨h1, h2, h3⟩
    have hne : s ≠ [] := List.length_pos_iff.1 h1
    simp only [Bool.and_eq_false_iff, Bool.not_eq_false', decide_eq_true_eq, decide_eq_false_iff_not] at hc
    rcases hc with (hc | hc) | hc
    · exact hne hc
    · omega
    · omega
  clear hc hs0 hs1
  try (first | refine gl tb ?_ | refine gg tb ?_ | refine ll tb ?_ | refine lg tb ?_); repeat ((first | refine G.condT rfl ?_ | refine G.condF rfl ?_ | refine sFa tb ?_ | refine sLd tb ?_ | refine sLa tb ?_ | refine sLen tb ?_ | refine sFd tb ?_ | refine sBd tb ?_ | refine sBa tb ?_); try (first | refine gl tb ?_ | refine gg tb ?_ | refine ll tb ?_ | refine lg tb ?_))
  refine sCall c60 (hp1_ok s 123 w) ?_
  rintro _ W1 ⟨rfl, hx1⟩
  try (first | refine gl tb ?_ | refine gg tb ?_ | refine ll tb ?_ | refine lg tb ?_); repeat ((first | refine G.condT rfl ?_ | refine G.condF rfl ?_ | refine sFa tb ?_ | refine sLd tb ?_ | refine sLa tb ?_ | refine sLen tb ?_ | refine sFd tb ?_ | refine sBd tb ?_ | refine sBa tb ?_); try (first | refine gl tb ?_ | refine gg tb ?_ | refine ll tb ?_ | refine lg tb ?_))
  first | refine G.condD rfl (fun hc => ?_) (fun hc => ?_) | refine G.condN rfl (fun hc => ?_) (fun hc => ?_) | refine G.cond rfl (fun hc => ?_) (fun hc => ?_)
  · have hc2 : ¬ Rx.isB s 0 123 = true := by simpa using hc
    have hP : Rx.namedP s = (0, 0) := by unfold Rx.namedP; rw [if_neg hc1, if_pos hc2]
    rw [hP]
    try (first | refine gl tb ?_ | refine gg tb ?_ | refine ll tb ?_ | refine lg tb ?_); repeat ((first | refine G.condT rfl ?_ | refine G.condF rfl ?_ | refine sFa tb ?_ | refine sLd tb ?_ | refine sLa tb ?_ | refine sLen tb ?_ | refine sFd tb ?_ | refine sBd tb ?_ | refine sBa tb ?_); try (first | refine gl tb ?_ | refine gg tb ?_ | refine ll tb ?_ | refine lg tb ?_))
    refine G.ret2 rfl rfl rfl rfl rfl ?_
    exact ⟨rfl, hx1⟩
  have hc2 : Rx.isB s 0 123 = true := by simpa using hc
  clear hc
  have hpos : 0 < s.length := by
    unfold Rx.isB at hc2
    simp only [Bool.and_eq_true, decide_eq_true_eq] at hc2
    exact hc2.1
  have hP : Rx.namedP s = if Rx.digitsP (s.drop 1) < 1 ∨ 3 < Rx.digitsP (s.drop 1) ∨ ¬ Rx.isB s (1 + Rx.digitsP (s.drop 1)) 125 = true ∨ (1 < Rx.digitsP (s.drop 1) ∧ (s.getD 1 0).toNat = 48) then (0, 0) else (Rx.numN s (Rx.digitsP (s.drop 1)), Rx.digitsP (s.drop 1) + 2) := by
    unfold Rx.namedP; rw [if_neg hc1, if_neg (fun h => h hc2)]
  have hdl := (Rx.digN_le (s.drop 1) (s.drop 1).length 0 (Nat.zero_le _)).2
  have hdg : ∀ k, k < Rx.digitsP (s.drop 1) → (s.getD (1 + k) 0).toNat ≤ 57 ∧ 48 ≤ (s.getD (1 + k) 0).toNat := fun k hk => by
    have := Rx.digN_dig (s.drop 1) _ 0 k (Nat.zero_le _) hk
    rwa [Rx.getD_drop] at this
  have hdl : Rx.digitsP (s.drop 1) ≤ s.length - 1 := by
    rw [List.length_drop] at hdl
    unfold Rx.digitsP
    rw [List.length_drop]
    exact hdl
  try (first | refine gl tb ?_ | refine gg tb ?_ | refine ll tb ?_ | refine lg tb ?_); repeat ((first | refine G.condT rfl ?_ | refine G.condF rfl ?_ | refine sFa tb ?_ | refine sLd tb ?_ | refine sLa tb ?_ | refine sLen tb ?_ | refine sFd tb ?_ | refine sBd tb ?_ | refine sBa tb ?_); try (first | refine gl tb ?_ | refine gg tb ?_ | refine ll tb ?_ | refine lg tb ?_))
  refine GL.cons (Step.sliceSl tb 1 rfl (Op1.of rfl (by first | exact fun _ => rfl | exact fun h => h | exact fun h => bL h | exact fun h => bL (bL h) | exact fun h => bL (bL (bL h)))) (Op1.of rfl (by first | exact fun _ => rfl | exact fun h => h | exact fun h => bL h | exact fun h => bL (bL h) | exact fun h => bL (bL (bL h)))) rfl (fun _ => ⟨rfl, by omega⟩) rfl ?_)
  try (first | refine gl tb ?_ | refine gg tb ?_ | refine ll tb ?_ | refine lg tb ?_); repeat ((first | refine G.condT rfl ?_ | refine G.condF rfl ?_ | refine sFa tb ?_ | refine sLd tb ?_ | refine sLa tb ?_ | refine sLen tb ?_ | refine sFd tb ?_ | refine sBd tb ?_ | refine sBa tb ?_); try (first | refine gl tb ?_ | refine gg tb ?_ | refine ll tb ?_ | refine lg tb ?_))
  refine sCall c79 (digits_ok (s.drop 1) W1 (by rw [List.length_drop]; omega)) ?_
  rintro _ W2 ⟨rfl, hx2⟩
  generalize Rx.digitsP (s.drop 1) = d at hP hdl hdg ⊢
  have hx2 := hx1.trans hx2
  try (first | refine gl tb ?_ | refine gg tb ?_ | refine ll tb ?_ | refine lg tb ?_); repeat ((first | refine G.condT rfl ?_ | refine G.condF rfl ?_ | refine sFa tb ?_ | refine sLd tb ?_ | refine sLa tb ?_ | refine sLen tb ?_ | refine sFd tb ?_ | refine sBd tb ?_ | refine sBa tb ?_); try (first | refine gl tb ?_ | refine gg tb ?_ | refine ll tb ?_ | refine lg tb ?_))
  refine sAd tb (r := ((1 + d : Nat) : Int)) ?_
  try (first | refine gl tb ?_ | refine gg tb ?_ | refine ll tb ?_ | refine lg tb ?_); repeat ((first | refine G.condT rfl ?_ | refine G.condF rfl ?_ | refine sFa tb ?_ | refine sLd tb ?_ | refine sLa tb ?_ | refine sLen tb ?_ | refine sFd tb ?_ | refine sBd tb ?_ | refine sBa tb ?_); try (first | refine gl tb ?_ | refine gg tb ?_ | refine ll tb ?_ | refine lg tb ?_))
  refine GL.cons (Step.sliceSl tb (1 + d) rfl (Op1.of rfl (by first | exact fun _ => rfl | exact fun h => h | exact fun h => bL h | exact fun h => bL (bL h) | exact fun h => bL (bL (bL h)))) (Op1.of rfl (by first | exact fun _ => rfl | exact fun h => h | exact fun h => bL h | exact fun h => bL (bL h) | exact fun h => bL (bL (bL h)))) rfl (fun _ => ⟨rfl, by omega⟩) rfl ?_)
  try (first | refine gl tb ?_ | refine gg tb ?_ | refine ll tb ?_ | refine lg tb ?_); repeat ((first | refine G.condT rfl ?_ | refine G.condF rfl ?_ | refine sFa tb ?_ | refine sLd tb ?_ | refine sLa tb ?_ | refine sLen tb ?_ | refine sFd tb ?_ | refine sBd tb ?_ | refine sBa tb ?_); try (first | refine gl tb ?_ | refine gg tb ?_ | refine ll tb ?_ | refine lg tb ?_))
  refine GL.cons (Step.callX rfl rfl (by repeat (first | exact OpL.nil | refine OpL.cons (Op1.of rfl (by first | exact fun _ => rfl | exact fun h => h | exact fun h => bL h | exact fun h => bL (bL h) | exact fun h => bL (bL (bL h)))) ?_)) c60 rfl (fun hc => hp1_ok (s.drop (1 + d)) 125 W2) ?_)
  intro W3 hx3
  have hx3 := hx2.trans hx3
  rw [isB_drop]
  try (first | refine gl tb ?_ | refine gg tb ?_ | refine ll tb ?_ | refine lg tb ?_); repeat ((first | refine G.condT rfl ?_ | refine G.condF rfl ?_ | refine sFa tb ?_ | refine sLd tb ?_ | refine sLa tb ?_ | refine sLen tb ?_ | refine sFd tb ?_ | refine sBd tb ?_ | refine sBa tb ?_); try (first | refine gl tb ?_ | refine gg tb ?_ | refine ll tb ?_ | refine lg tb ?_))
  refine GL.cons (Step.indexS tb 1 rfl (Op1.of rfl (by first | exact fun _ => rfl | exact fun h => h | exact fun h => bL h | exact fun h => bL (bL h) | exact fun h => bL (bL (bL h)))) (Op1.of rfl (by first | exact fun _ => rfl | exact fun h => h | exact fun h => bL h | exact fun h => bL (bL h) | exact fun h => bL (bL (bL h)))) rfl (fun hc => ⟨rfl, by
    have h := hc
    simp only [cv, Bool.and_eq_true, decide_eq_true_eq] at h
    omega⟩) rfl ?_)
  try (first | refine gl tb ?_ | refine gg tb ?_ | refine ll tb ?_ | refine lg tb ?_); repeat ((first | refine G.condT rfl ?_ | refine G.condF rfl ?_ | refine sFa tb ?_ | refine sLd tb ?_ | refine sLa tb ?_ | refine sLen tb ?_ | refine sFd tb ?_ | refine sBd tb ?_ | refine sBa tb ?_); try (first | refine gl tb ?_ | refine gg tb ?_ | refine ll tb ?_ | refine lg tb ?_))
  first | refine G.condD rfl (fun hc => ?_) (fun hc => ?_) | refine G.condN rfl (fun hc => ?_) (fun hc => ?_) | refine G.cond rfl (fun hc => ?_) (fun hc => ?_)
  · have hc3 : d < 1 ∨ 3 < d ∨ ¬ Rx.isB s (1 + d) 125 = true ∨ (1 < d ∧ (s.getD 1 0).toNat = 48) := by
      simp only [Bool.or_eq_true, Bool.and_eq_true, Bool.not_eq_true', decide_eq_true_eq] at hc
      rcases hc with ((h | h) | h) | h
      · left; omega
      · right; left; omega
      · right; right; left; rw [h]; exact Bool.false_ne_true
      · right; right; right; omega
    rw [if_pos hc3] at hP
    rw [hP]
    try (first | refine gl tb ?_ | refine gg tb ?_ | refine ll tb ?_ | refine lg tb ?_); repeat ((first | refine G.condT rfl ?_ | refine G.condF rfl ?_ | refine sFa tb ?_ | refine sLd tb ?_ | refine sLa tb ?_ | refine sLen tb ?_ | refine sFd tb ?_ | refine sBd tb ?_ | refine sBa tb ?_); try (first | refine gl tb ?_ | refine gg tb ?_ | refine ll tb ?_ | refine lg tb ?_))
    refine G.ret2 rfl rfl rfl rfl rfl ?_
    exact ⟨rfl, hx3⟩
  have hc3 : ¬ (d < 1 ∨ 3 < d ∨ ¬ Rx.isB s (1 + d) 125 = true ∨ (1 < d ∧ (s.getD 1 0).toNat = 48)) := by
    simp only [Bool.or_eq_false_iff, Bool.and_eq_false_iff, Bool.not_eq_false', decide_eq_false_iff_not] at hc
    obtain ⟨⟨⟨h1, h2⟩, h3⟩, h4⟩ := hc
    rintro (h | h | h | h)
    · omega
    · omega
    · exact h h3
    · omega
  rw [if_neg hc3] at hP
  rw [hP]
  clear hc hc1 hc2 hP
  have hd3 : d ≤ 3 := by omega
  have hnl := Rx.numN_lt s
  try (first | refine gl tb ?_ | refine gg tb ?_ | refine ll tb ?_ | refine lg tb ?_); repeat ((first | refine G.condT rfl ?_ | refine G.condF rfl ?_ | refine sFa tb ?_ | refine sLd tb ?_ | refine sLa tb ?_ | refine sLen tb ?_ | refine sFd tb ?_ | refine sBd tb ?_ | refine sBa tb ?_); try (first | refine gl tb ?_ | refine gg tb ?_ | refine ll tb ?_ | refine lg tb ?_))
  refine (G.loop (fun k : Nat => [(0, none, S s), (2, none, .int .i64 (Rx.numN s k)), (4, none, .int .i64 d), (51, none, .int .i64 d), (52, none, .int .i64 k)]) (fun k W => Ext w W ∧ k ≤ d) (fun k => d - k) 0 (by repeat (first | exact Sub.nil _ | refine Sub.cons rfl ?_)) ⟨hx3, Nat.zero_le _⟩ ?_)
  rintro k W ⟨hx, hk⟩
  have hnk := hnl k (by omega) fun j hj => (hdg j (by omega)).1
  have hpk : 10 ^ k ≤ 10 ^ 3 := Nat.pow_le_pow_right (by omega) (by omega)
  try (first | refine gl tb ?_ | refine gg tb ?_ | refine ll tb ?_ | refine lg tb ?_); repeat ((first | refine G.condT rfl ?_ | refine G.condF rfl ?_ | refine sFa tb ?_ | refine sLd tb ?_ | refine sLa tb ?_ | refine sLen tb ?_ | refine sFd tb ?_ | refine sBd tb ?_ | refine sBa tb ?_); try (first | refine gl tb ?_ | refine gg tb ?_ | refine ll tb ?_ | refine lg tb ?_))
  first | refine G.condD rfl (fun hc => ?_) (fun hc => ?_) | refine G.condN rfl (fun hc => ?_) (fun hc => ?_) | refine G.cond rfl (fun hc => ?_) (fun hc => ?_)
  · have hlt : k < d := by omega
    have hdk := hdg k hlt
    try (first | refine gl tb ?_ | refine gg tb ?_ | refine ll tb ?_ | refine lg tb ?_); repeat ((first | refine G.condT rfl ?_ | refine G.condF rfl ?_ | refine sFa tb ?_ | refine sLd tb ?_ | refine sLa tb ?_ | refine sLen tb ?_ | refine sFd tb ?_ | refine sBd tb ?_ | refine sBa tb ?_); try (first | refine gl tb ?_ | refine gg tb ?_ | refine ll tb ?_ | refine lg tb ?_))
    refine sAd tb (r := ((10 * Rx.numN s k : Nat) : Int)) ?_ (hp := by show IntKind.i64.wrap _ = _; rw [wrap_i64 (by omega) (by omega)]; omega)
    try (first | refine gl tb ?_ | refine gg tb ?_ | refine ll tb ?_ | refine lg tb ?_); repeat ((first | refine G.condT rfl ?_ | refine G.condF rfl ?_ | refine sFa tb ?_ | refine sLd tb ?_ | refine sLa tb ?_ | refine sLen tb ?_ | refine sFd tb ?_ | refine sBd tb ?_ | refine sBa tb ?_); try (first | refine gl tb ?_ | refine gg tb ?_ | refine ll tb ?_ | refine lg tb ?_))
    refine sAd tb (r := ((1 + k : Nat) : Int)) ?_
    try (first | refine gl tb ?_ | refine gg tb ?_ | refine ll tb ?_ | refine lg tb ?_); repeat ((first | refine G.condT rfl ?_ | refine G.condF rfl ?_ | refine sFa tb ?_ | refine sLd tb ?_ | refine sLa tb ?_ | refine sLen tb ?_ | refine sFd tb ?_ | refine sBd tb ?_ | refine sBa tb ?_); try (first | refine gl tb ?_ | refine gg tb ?_ | refine ll tb ?_ | refine lg tb ?_))
    refine sBs tb (1 + k) ?_
    have hnx : Rx.numN s (k + 1) = 10 * Rx.numN s k + ((s.getD (1 + k) 0).toNat - 48) := rfl
    generalize (s.getD (1 + k) 0) = c at hdk hnx ⊢
    try (first | refine gl tb ?_ | refine gg tb ?_ | refine ll tb ?_ | refine lg tb ?_); repeat ((first | refine G.condT rfl ?_ | refine G.condF rfl ?_ | refine sFa tb ?_ | refine sLd tb ?_ | refine sLa tb ?_ | refine sLen tb ?_ | refine sFd tb ?_ | refine sBd tb ?_ | refine sBa tb ?_); try (first | refine gl tb ?_ | refine gg tb ?_ | refine ll tb ?_ | refine lg tb ?_))
    refine GL.cons (Step.arith (k := .u8) (a := c.toNat) (r := (c.toNat - 48 : Nat)) rfl (Op1.of rfl (by first | exact fun _ => rfl | exact fun h => h | exact fun h => bL h | exact fun h => bL (bL h) | exact fun h => bL (bL (bL h)))) (Op1.of rfl (by first | exact fun _ => rfl | exact fun h => h | exact fun h => bL h | exact fun h => bL (bL h) | exact fun h => bL (bL (bL h)))) (by show IntKind.u8.wrap _ = _; rw [wrap_u8 (by omega) (by omega)]; omega) rfl ?_)
    try (first | refine gl tb ?_ | refine gg tb ?_ | refine ll tb ?_ | refine lg tb ?_); repeat ((first | refine G.condT rfl ?_ | refine G.condF rfl ?_ | refine sFa tb ?_ | refine sLd tb ?_ | refine sLa tb ?_ | refine sLen tb ?_ | refine sFd tb ?_ | refine sBd tb ?_ | refine sBa tb ?_); try (first | refine gl tb ?_ | refine gg tb ?_ | refine ll tb ?_ | refine lg tb ?_))
    refine sCv tb (r := ((c.toNat - 48 : Nat) : Int)) ?_
    try (first | refine gl tb ?_ | refine gg tb ?_ | refine ll tb ?_ | refine lg tb ?_); repeat ((first | refine G.condT rfl ?_ | refine G.condF rfl ?_ | refine sFa tb ?_ | refine sLd tb ?_ | refine sLa tb ?_ | refine sLen tb ?_ | refine sFd tb ?_ | refine sBd tb ?_ | refine sBa tb ?_); try (first | refine gl tb ?_ | refine gg tb ?_ | refine ll tb ?_ | refine lg tb ?_))
    refine sAd tb (r := ((Rx.numN s (k + 1) : Nat) : Int)) ?_ (hp := by show IntKind.i64.wrap _ = _; rw [hnx, wrap_i64 (by omega) (by omega)]; omega)
    try (first | refine gl tb ?_ | refine gg tb ?_ | refine ll tb ?_ | refine lg tb ?_); repeat ((first | refine G.condT rfl ?_ | refine G.condF rfl ?_ | refine sFa tb ?_ | refine sLd tb ?_ | refine sLa tb ?_ | refine sLen tb ?_ | refine sFd tb ?_ | refine sBd tb ?_ | refine sBa tb ?_); try (first | refine gl tb ?_ | refine gg tb ?_ | refine ll tb ?_ | refine lg tb ?_))
    refine sAd tb (r := ((k + 1 : Nat) : Int)) ?_
    try (first | refine gl tb ?_ | refine gg tb ?_ | refine ll tb ?_ | refine lg tb ?_); repeat ((first | refine G.condT rfl ?_ | refine G.condF rfl ?_ | refine sFa tb ?_ | refine sLd tb ?_ | refine sLa tb ?_ | refine sLen tb ?_ | refine sFd tb ?_ | refine sBd tb ?_ | refine sBa tb ?_); try (first | refine gl tb ?_ | refine gg tb ?_ | refine ll tb ?_ | refine lg tb ?_))
    exact G.lp (x := k) (k + 1) (by repeat (first | exact Sub.nil _ | refine Sub.cons rfl ?_)) ⟨hx, by omega⟩ (by omega)
  · have hke : k = d := by omega
    subst hke
    try (first | refine gl tb ?_ | refine gg tb ?_ | refine ll tb ?_ | refine lg tb ?_); repeat ((first | refine G.condT rfl ?_ | refine G.condF rfl ?_ | refine sFa tb ?_ | refine sLd tb ?_ | refine sLa tb ?_ | refine sLen tb ?_ | refine sFd tb ?_ | refine sBd tb ?_ | refine sBa tb ?_); try (first | refine gl tb ?_ | refine gg tb ?_ | refine ll tb ?_ | refine lg tb ?_))
    refine sAd tb (r := ((k + 2 : Nat) : Int)) ?_
    try (first | refine gl tb ?_ | refine gg tb ?_ | refine ll tb ?_ | refine lg tb ?_); repeat ((first | refine G.condT rfl ?_ | refine G.condF rfl ?_ | refine sFa tb ?_ | refine sLd tb ?_ | refine sLa tb ?_ | refine sLen tb ?_ | refine sFd tb ?_ | refine sBd tb ?_ | refine sBa tb ?_); try (first | refine gl tb ?_ | refine gg tb ?_ | refine ll tb ?_ | refine lg tb ?_))
    refine G.ret2 rfl rfl rfl rfl rfl ?_
    exact ⟨rfl, hx⟩
def OutB (out : List UInt8) (i : Nat) : Prop := out.length ≤ i * 100001
theorem outB {out : List UInt8} {i : Nat} (h : out.length ≤ i * 100001) : OutB out i := h
theorem out_le {out : List UInt8} {i m : Nat} (h : out.length ≤ i * 100001) (l : List UInt8) (hl : l.length ≤ m * 100001) : OutB (out ++ l) (i + m) := by
  unfold OutB
  rw [List.length_append, Nat.add_mul]; omega
set_option maxHeartbeats 8000000 in
theorem expand_ok (t x : List UInt8) (g : List Int) (v : Value) (w : World) (ht : t.length ≤ 2000) (hx0 : x.length ≤ 100000) (_ : g.length ≤ 100000) (hv : Sli w v 1 (g.map inC)) :
    Ret Tryd.prog 38 ⟨[S t, S x, v]⟩ w fun r w' => r = S (Rx.expandP t x g) ∧ Ext w w' := by
  refine ret_of_G Tryd.func38 rfl Tryd.ntmps38 rfl ?_
  simp only [argEnv]
  try (first | refine gl tb ?_ | refine gg tb ?_ | refine ll tb ?_ | refine lg tb ?_); repeat ((first | refine G.condT rfl ?_ | refine G.condF rfl ?_ | refine sFa tb ?_ | refine sLd tb ?_ | refine sLa tb ?_ | refine sLen tb ?_ | refine sFd tb ?_ | refine sBd tb ?_ | refine sBa tb ?_); try (first | refine gl tb ?_ | refine gg tb ?_ | refine ll tb ?_ | refine lg tb ?_))
  refine GL.cons (Step.allocE tb rfl rfl rfl rfl ?_)
  have hx1 : Ext w (w.alloc (.cells ⟨[.pointer none, .slice none 0 0]⟩ 116)) := Ext.alloc _ _
  have hb1 : Bld (w.alloc (.cells ⟨[.pointer none, .slice none 0 0]⟩ 116)) w.heap.size w.heap.size [] :=
    .inl ⟨Nat.le_refl _, _, heap_alloc_new _ _, World.ownsRow_nil _ _ _ _, by simp [Value.ownBlock]⟩
  generalize w.alloc (.cells ⟨[.pointer none, .slice none 0 0]⟩ 116) = w1 at hx1 hb1 ⊢
  try (first | refine gl tb ?_ | refine gg tb ?_ | refine ll tb ?_ | refine lg tb ?_); repeat ((first | refine G.condT rfl ?_ | refine G.condF rfl ?_ | refine sFa tb ?_ | refine sLd tb ?_ | refine sLa tb ?_ | refine sLen tb ?_ | refine sFd tb ?_ | refine sBd tb ?_ | refine sBa tb ?_); try (first | refine gl tb ?_ | refine gg tb ?_ | refine ll tb ?_ | refine lg tb ?_))
  refine (G.loop (fun y : Nat × Nat × List UInt8 => [(0, none, S t), (1, none, S x), (2, none, v), (7, none, ptr w.heap.size), (8, none, .int .i64 y.2.1)]) (fun y W => Ext w W ∧ y.2.1 ≤ t.length ∧ t.length - y.2.1 < y.1 ∧ Bld W w.heap.size w.heap.size y.2.2 ∧ OutB y.2.2 y.2.1 ∧ Rx.expL t x g y.1 y.2.1 y.2.2 = Rx.expandP t x g) (fun y => y.1) (t.length + 1, 0, []) (by repeat (first | exact Sub.nil _ | refine Sub.cons rfl ?_)) ⟨hx1, Nat.zero_le _, by simp only; omega, hb1, outB (Nat.zero_le _), rfl⟩ ?_)
  clear hx1 hb1
  rintro ⟨n, i, out⟩ W ⟨hx, hi, hn, hb, hol, hL⟩
  simp only at hi hn hb hol hL
  have hol : out.length ≤ i * 100001 := hol
  show G _ _ [(0, none, S t), (1, none, S x), (2, none, v), (7, none, ptr w.heap.size), (8, none, .int .i64 i)] W
  obtain ⟨n, rfl⟩ : ∃ m, n = m + 1 := ⟨n - 1, by omega⟩
  rw [Rx.expL] at hL
  try (first | refine gl tb ?_ | refine gg tb ?_ | refine ll tb ?_ | refine lg tb ?_); repeat ((first | refine G.condT rfl ?_ | refine G.condF rfl ?_ | refine sFa tb ?_ | refine sLd tb ?_ | refine sLa tb ?_ | refine sLen tb ?_ | refine sFd tb ?_ | refine sBd tb ?_ | refine sBa tb ?_); try (first | refine gl tb ?_ | refine gg tb ?_ | refine ll tb ?_ | refine lg tb ?_))
  first | refine G.condD rfl (fun hc => ?_) (fun hc => ?_) | refine G.condN rfl (fun hc => ?_) (fun hc => ?_) | refine G.cond rfl (fun hc => ?_) (fun hc => ?_)
  rotate_left
  · rw [if_neg (by omega)] at hL
    try (first | refine gl tb ?_ | refine gg tb ?_ | refine ll tb ?_ | refine lg tb ?_); repeat ((first | refine G.condT rfl ?_ | refine G.condF rfl ?_ | refine sFa tb ?_ | refine sLd tb ?_ | refine sLa tb ?_ | refine sLen tb ?_ | refine sFd tb ?_ | refine sBd tb ?_ | refine sBa tb ?_); try (first | refine gl tb ?_ | refine gg tb ?_ | refine ll tb ?_ | refine lg tb ?_))
    refine sCall c63 (bstr_ok w.heap.size w.heap.size _ W hb hx.size) ?_
    rintro _ W2 ⟨rfl, hx2⟩
    try (first | refine gl tb ?_ | refine gg tb ?_ | refine ll tb ?_ | refine lg tb ?_); repeat ((first | refine G.condT rfl ?_ | refine G.condF rfl ?_ | refine sFa tb ?_ | refine sLd tb ?_ | refine sLa tb ?_ | refine sLen tb ?_ | refine sFd tb ?_ | refine sBd tb ?_ | refine sBa tb ?_); try (first | refine gl tb ?_ | refine gg tb ?_ | refine ll tb ?_ | refine lg tb ?_))
    refine G.ret1 rfl rfl rfl rfl ?_
    exact ⟨by rw [← hL], Below.trans (B := w.heap.size) hx hx2⟩
  have hlt : i < t.length := by omega
  rw [if_pos hlt] at hL
  try (first | refine gl tb ?_ | refine gg tb ?_ | refine ll tb ?_ | refine lg tb ?_); repeat ((first | refine G.condT rfl ?_ | refine G.condF rfl ?_ | refine sFa tb ?_ | refine sLd tb ?_ | refine sLa tb ?_ | refine sLen tb ?_ | refine sFd tb ?_ | refine sBd tb ?_ | refine sBa tb ?_); try (first | refine gl tb ?_ | refine gg tb ?_ | refine ll tb ?_ | refine lg tb ?_))
  refine sBs tb i ?_
  try (first | refine gl tb ?_ | refine gg tb ?_ | refine ll tb ?_ | refine lg tb ?_); repeat ((first | refine G.condT rfl ?_ | refine G.condF rfl ?_ | refine sFa tb ?_ | refine sLd tb ?_ | refine sLa tb ?_ | refine sLen tb ?_ | refine sFd tb ?_ | refine sBd tb ?_ | refine sBa tb ?_); try (first | refine gl tb ?_ | refine gg tb ?_ | refine ll tb ?_ | refine lg tb ?_))
  first | refine G.condD rfl (fun hc => ?_) (fun hc => ?_) | refine G.condN rfl (fun hc => ?_) (fun hc => ?_) | refine G.cond rfl (fun hc => ?_) (fun hc => ?_)
  · have h36 : (t.getD i 0).toNat ≠ 36 := by
      intro h
      rw [h] at hc
      simp at hc
    rw [if_pos h36] at hL
    try (first | refine gl tb ?_ | refine gg tb ?_ | refine ll tb ?_ | refine lg tb ?_); repeat ((first | refine G.condT rfl ?_ | refine G.condF rfl ?_ | refine sFa tb ?_ | refine sLd tb ?_ | refine sLa tb ?_ | refine sLen tb ?_ | refine sFd tb ?_ | refine sBd tb ?_ | refine sBa tb ?_); try (first | refine gl tb ?_ | refine gg tb ?_ | refine ll tb ?_ | refine lg tb ?_))
    refine sBs tb i ?_
    try (first | refine gl tb ?_ | refine gg tb ?_ | refine ll tb ?_ | refine lg tb ?_); repeat ((first | refine G.condT rfl ?_ | refine G.condF rfl ?_ | refine sFa tb ?_ | refine sLd tb ?_ | refine sLa tb ?_ | refine sLen tb ?_ | refine sFd tb ?_ | refine sBd tb ?_ | refine sBa tb ?_); try (first | refine gl tb ?_ | refine gg tb ?_ | refine ll tb ?_ | refine lg tb ?_))
    refine sCall c59 (wbyte_ok w.heap.size w.heap.size _ (t.getD i 0) W hb (by omega) hx.size) ?_
    rintro _ W2 ⟨rfl, hb2, hx2⟩
    try (first | refine gl tb ?_ | refine gg tb ?_ | refine ll tb ?_ | refine lg tb ?_); repeat ((first | refine G.condT rfl ?_ | refine G.condF rfl ?_ | refine sFa tb ?_ | refine sLd tb ?_ | refine sLa tb ?_ | refine sLen tb ?_ | refine sFd tb ?_ | refine sBd tb ?_ | refine sBa tb ?_); try (first | refine gl tb ?_ | refine gg tb ?_ | refine ll tb ?_ | refine lg tb ?_))
    refine sAd tb (r := ((i + 1 : Nat) : Int)) ?_
    try (first | refine gl tb ?_ | refine gg tb ?_ | refine ll tb ?_ | refine lg tb ?_); repeat ((first | refine G.condT rfl ?_ | refine G.condF rfl ?_ | refine sFa tb ?_ | refine sLd tb ?_ | refine sLa tb ?_ | refine sLen tb ?_ | refine sFd tb ?_ | refine sBd tb ?_ | refine sBa tb ?_); try (first | refine gl tb ?_ | refine gg tb ?_ | refine ll tb ?_ | refine lg tb ?_))
    exact G.lp (x := (n + 1, i, out)) (n, i + 1, out ++ [t.getD i 0]) (by repeat (first | exact Sub.nil _ | refine Sub.cons rfl ?_)) ⟨Below.trans (B := w.heap.size) hx hx2, by simp only; omega, by simp only; omega, hb2, out_le hol _ (by simp), hL⟩ (by simp only; omega)
  have h36 : ¬ (t.getD i 0).toNat ≠ 36 := by
    intro h
    have hc : ((t.getD i 0).toNat : Int) = 36 := hc
    omega
  rw [if_neg h36] at hL
  clear hc
  try (first | refine gl tb ?_ | refine gg tb ?_ | refine ll tb ?_ | refine lg tb ?_); repeat ((first | refine G.condT rfl ?_ | refine G.condF rfl ?_ | refine sFa tb ?_ | refine sLd tb ?_ | refine sLa tb ?_ | refine sLen tb ?_ | refine sFd tb ?_ | refine sBd tb ?_ | refine sBa tb ?_); try (first | refine gl tb ?_ | refine gg tb ?_ | refine ll tb ?_ | refine lg tb ?_))
  refine sAd tb (r := ((i + 1 : Nat) : Int)) ?_
  try (first | refine gl tb ?_ | refine gg tb ?_ | refine ll tb ?_ | refine lg tb ?_); repeat ((first | refine G.condT rfl ?_ | refine G.condF rfl ?_ | refine sFa tb ?_ | refine sLd tb ?_ | refine sLa tb ?_ | refine sLen tb ?_ | refine sFd tb ?_ | refine sBd tb ?_ | refine sBa tb ?_); try (first | refine gl tb ?_ | refine gg tb ?_ | refine ll tb ?_ | refine lg tb ?_))
  refine GL.cons (Step.sliceSl tb (i + 1) rfl (Op1.of rfl (by first | exact fun _ => rfl | exact fun h => h | exact fun h => bL h | exact fun h => bL (bL h) | exact fun h => bL (bL (bL h)))) (Op1.of rfl (by first | exact fun _ => rfl | exact fun h => h | exact fun h => bL h | exact fun h => bL (bL h) | exact fun h => bL (bL (bL h)))) rfl (fun _ => ⟨rfl, by omega⟩) rfl ?_)
  try (first | refine gl tb ?_ | refine gg tb ?_ | refine ll tb ?_ | refine lg tb ?_); repeat ((first | refine G.condT rfl ?_ | refine G.condF rfl ?_ | refine sFa tb ?_ | refine sLd tb ?_ | refine sLa tb ?_ | refine sLen tb ?_ | refine sFd tb ?_ | refine sBd tb ?_ | refine sBa tb ?_); try (first | refine gl tb ?_ | refine gg tb ?_ | refine ll tb ?_ | refine lg tb ?_))
  refine sCall c60 (hp1_ok (t.drop (i + 1)) 36 W) ?_
  rintro _ W1 ⟨rfl, hx1⟩
  rw [isB_drop]
  have hb := Bld.ext hb hx1
  have hx := hx.trans hx1
  try (first | refine gl tb ?_ | refine gg tb ?_ | refine ll tb ?_ | refine lg tb ?_); repeat ((first | refine G.condT rfl ?_ | refine G.condF rfl ?_ | refine sFa tb ?_ | refine sLd tb ?_ | refine sLa tb ?_ | refine sLen tb ?_ | refine sFd tb ?_ | refine sBd tb ?_ | refine sBa tb ?_); try (first | refine gl tb ?_ | refine gg tb ?_ | refine ll tb ?_ | refine lg tb ?_))
  first | refine G.condD rfl (fun hc => ?_) (fun hc => ?_) | refine G.condN rfl (fun hc => ?_) (fun hc => ?_) | refine G.cond rfl (fun hc => ?_) (fun hc => ?_)
  · have h2 : Rx.isB t (i + 1) 36 = true := hc
    rw [if_pos h2] at hL
    have hlt2 : i + 1 < t.length := by
      unfold Rx.isB at h2
      simp only [Bool.and_eq_true, decide_eq_true_eq] at h2
      exact h2.1
    try (first | refine gl tb ?_ | refine gg tb ?_ | refine ll tb ?_ | refine lg tb ?_); repeat ((first | refine G.condT rfl ?_ | refine G.condF rfl ?_ | refine sFa tb ?_ | refine sLd tb ?_ | refine sLa tb ?_ | refine sLen tb ?_ | refine sFd tb ?_ | refine sBd tb ?_ | refine sBa tb ?_); try (first | refine gl tb ?_ | refine gg tb ?_ | refine ll tb ?_ | refine lg tb ?_))
    refine sCall c59 (wbyte_ok w.heap.size w.heap.size _ 36 W1 hb (by omega) hx.size) ?_
    rintro _ W2 ⟨rfl, hb2, hx2⟩
    try (first | refine gl tb ?_ | refine gg tb ?_ | refine ll tb ?_ | refine lg tb ?_); repeat ((first | refine G.condT rfl ?_ | refine G.condF rfl ?_ | refine sFa tb ?_ | refine sLd tb ?_ | refine sLa tb ?_ | refine sLen tb ?_ | refine sFd tb ?_ | refine sBd tb ?_ | refine sBa tb ?_); try (first | refine gl tb ?_ | refine gg tb ?_ | refine ll tb ?_ | refine lg tb ?_))
    refine sAd tb (r := ((i + 2 : Nat) : Int)) ?_
    try (first | refine gl tb ?_ | refine gg tb ?_ | refine ll tb ?_ | refine lg tb ?_); repeat ((first | refine G.condT rfl ?_ | refine G.condF rfl ?_ | refine sFa tb ?_ | refine sLd tb ?_ | refine sLa tb ?_ | refine sLen tb ?_ | refine sFd tb ?_ | refine sBd tb ?_ | refine sBa tb ?_); try (first | refine gl tb ?_ | refine gg tb ?_ | refine ll tb ?_ | refine lg tb ?_))
    exact G.lp (x := (n + 1, i, out)) (n, i + 2, out ++ [36]) (by repeat (first | exact Sub.nil _ | refine Sub.cons rfl ?_)) ⟨Below.trans (B := w.heap.size) hx hx2, by simp only; omega, by simp only; omega, hb2, out_le (m := 2) hol _ (by simp), hL⟩ (by simp only; omega)
  have h2 : ¬ Rx.isB t (i + 1) 36 = true := by
    have hc : Rx.isB t (i + 1) 36 = false := hc
    rw [hc]; exact Bool.false_ne_true
  rw [if_neg h2] at hL
  clear hc
  try (first | refine gl tb ?_ | refine gg tb ?_ | refine ll tb ?_ | refine lg tb ?_); repeat ((first | refine G.condT rfl ?_ | refine G.condF rfl ?_ | refine sFa tb ?_ | refine sLd tb ?_ | refine sLa tb ?_ | refine sLen tb ?_ | refine sFd tb ?_ | refine sBd tb ?_ | refine sBa tb ?_); try (first | refine gl tb ?_ | refine gg tb ?_ | refine ll tb ?_ | refine lg tb ?_))
  refine GL.cons (Step.sliceSl tb (i + 1) rfl (Op1.of rfl (by first | exact fun _ => rfl | exact fun h => h | exact fun h => bL h | exact fun h => bL (bL h) | exact fun h => bL (bL (bL h)))) (Op1.of rfl (by first | exact fun _ => rfl | exact fun h => h | exact fun h => bL h | exact fun h => bL (bL h) | exact fun h => bL (bL (bL h)))) rfl (fun _ => ⟨rfl, by omega⟩) rfl ?_)
  try (first | refine gl tb ?_ | refine gg tb ?_ | refine ll tb ?_ | refine lg tb ?_); repeat ((first | refine G.condT rfl ?_ | refine G.condF rfl ?_ | refine sFa tb ?_ | refine sLd tb ?_ | refine sLa tb ?_ | refine sLen tb ?_ | refine sFd tb ?_ | refine sBd tb ?_ | refine sBa tb ?_); try (first | refine gl tb ?_ | refine gg tb ?_ | refine ll tb ?_ | refine lg tb ?_))
  refine sCall c61 (named_ok (t.drop (i + 1)) W1 (by rw [List.length_drop]; omega)) ?_
  rintro _ W2 ⟨rfl, hx2⟩
  have hnl := Rx.namedP_le (t.drop (i + 1))
  rw [List.length_drop] at hnl
  generalize Rx.namedP (t.drop (i + 1)) = km at hL hnl ⊢
  obtain ⟨k, m⟩ := km
  simp only at hL hnl
  have hb := Bld.ext hb hx2
  have hx := hx.trans hx2
  try (first | refine gl tb ?_ | refine gg tb ?_ | refine ll tb ?_ | refine lg tb ?_); repeat ((first | refine G.condT rfl ?_ | refine G.condF rfl ?_ | refine sFa tb ?_ | refine sLd tb ?_ | refine sLa tb ?_ | refine sLen tb ?_ | refine sFd tb ?_ | refine sBd tb ?_ | refine sBa tb ?_); try (first | refine gl tb ?_ | refine gg tb ?_ | refine ll tb ?_ | refine lg tb ?_))
  first | refine G.condD rfl (fun hc => ?_) (fun hc => ?_) | refine G.condN rfl (fun hc => ?_) (fun hc => ?_) | refine G.cond rfl (fun hc => ?_) (fun hc => ?_)
  · have hm : m = 0 := by omega
    rw [if_pos hm] at hL
    try (first | refine gl tb ?_ | refine gg tb ?_ | refine ll tb ?_ | refine lg tb ?_); repeat ((first | refine G.condT rfl ?_ | refine G.condF rfl ?_ | refine sFa tb ?_ | refine sLd tb ?_ | refine sLa tb ?_ | refine sLen tb ?_ | refine sFd tb ?_ | refine sBd tb ?_ | refine sBa tb ?_); try (first | refine gl tb ?_ | refine gg tb ?_ | refine ll tb ?_ | refine lg tb ?_))
    refine sCall c59 (wbyte_ok w.heap.size w.heap.size _ 36 W2 hb (by omega) hx.size) ?_
    rintro _ W3 ⟨rfl, hb3, hx3⟩
    try (first | refine gl tb ?_ | refine gg tb ?_ | refine ll tb ?_ | refine lg tb ?_); repeat ((first | refine G.condT rfl ?_ | refine G.condF rfl ?_ | refine sFa tb ?_ | refine sLd tb ?_ | refine sLa tb ?_ | refine sLen tb ?_ | refine sFd tb ?_ | refine sBd tb ?_ | refine sBa tb ?_); try (first | refine gl tb ?_ | refine gg tb ?_ | refine ll tb ?_ | refine lg tb ?_))
    exact G.lp (x := (n + 1, i, out)) (n, i + 1, out ++ [36]) (by repeat (first | exact Sub.nil _ | refine Sub.cons rfl ?_)) ⟨Below.trans (B := w.heap.size) hx hx3, by simp only; omega, by simp only; omega, hb3, out_le hol _ (by simp), hL⟩ (by simp only; omega)
  have hm : ¬ m = 0 := by omega
  rw [if_neg hm] at hL
  have hgl := Rx.grpP_len x g k
  have hgm : (g.map inC).length = g.length := by simp
  try (first | refine gl tb ?_ | refine gg tb ?_ | refine ll tb ?_ | refine lg tb ?_); repeat ((first | refine G.condT rfl ?_ | refine G.condF rfl ?_ | refine sFa tb ?_ | refine sLd tb ?_ | refine sLa tb ?_ | refine sLen tb ?_ | refine sFd tb ?_ | refine sBd tb ?_ | refine sBa tb ?_); try (first | refine gl tb ?_ | refine gg tb ?_ | refine ll tb ?_ | refine lg tb ?_))
  refine sAd tb (r := ((i + 1 + m : Nat) : Int)) ?_
  try (first | refine gl tb ?_ | refine gg tb ?_ | refine ll tb ?_ | refine lg tb ?_); repeat ((first | refine G.condT rfl ?_ | refine G.condF rfl ?_ | refine sFa tb ?_ | refine sLd tb ?_ | refine sLa tb ?_ | refine sLen tb ?_ | refine sFd tb ?_ | refine sBd tb ?_ | refine sBa tb ?_); try (first | refine gl tb ?_ | refine gg tb ?_ | refine ll tb ?_ | refine lg tb ?_))
  refine sAd tb (r := ((2 * k : Nat) : Int)) ?_
  try (first | refine gl tb ?_ | refine gg tb ?_ | refine ll tb ?_ | refine lg tb ?_); repeat ((first | refine G.condT rfl ?_ | refine G.condF rfl ?_ | refine sFa tb ?_ | refine sLd tb ?_ | refine sLa tb ?_ | refine sLen tb ?_ | refine sFd tb ?_ | refine sBd tb ?_ | refine sBa tb ?_); try (first | refine gl tb ?_ | refine gg tb ?_ | refine ll tb ?_ | refine lg tb ?_))
  refine sAd tb (r := ((2 * k + 1 : Nat) : Int)) ?_
  have hv2 := hv.to hx
  try (first | refine gl tb ?_ | refine gg tb ?_ | refine ll tb ?_ | refine lg tb ?_); repeat ((first | refine G.condT rfl ?_ | refine G.condF rfl ?_ | refine sFa tb ?_ | refine sLd tb ?_ | refine sLa tb ?_ | refine sLen tb ?_ | refine sFd tb ?_ | refine sBd tb ?_ | refine sBa tb ?_); try (first | refine gl tb ?_ | refine gg tb ?_ | refine ll tb ?_ | refine lg tb ?_))
  rw [hgm]
  try (first | refine gl tb ?_ | refine gg tb ?_ | refine ll tb ?_ | refine lg tb ?_); repeat ((first | refine G.condT rfl ?_ | refine G.condF rfl ?_ | refine sFa tb ?_ | refine sLd tb ?_ | refine sLa tb ?_ | refine sLen tb ?_ | refine sFd tb ?_ | refine sBd tb ?_ | refine sBa tb ?_); try (first | refine gl tb ?_ | refine gg tb ?_ | refine ll tb ?_ | refine lg tb ?_))
  first | refine G.condD rfl (fun hc => ?_) (fun hc => ?_) | refine G.condN rfl (fun hc => ?_) (fun hc => ?_) | refine G.cond rfl (fun hc => ?_) (fun hc => ?_)
  rotate_left
  · have hng : Rx.grpP x g k = [] := by unfold Rx.grpP; rw [if_neg (by omega)]
    rw [hng, List.append_nil] at hL
    try (first | refine gl tb ?_ | refine gg tb ?_ | refine ll tb ?_ | refine lg tb ?_); repeat ((first | refine G.condT rfl ?_ | refine G.condF rfl ?_ | refine sFa tb ?_ | refine sLd tb ?_ | refine sLa tb ?_ | refine sLen tb ?_ | refine sFd tb ?_ | refine sBd tb ?_ | refine sBa tb ?_); try (first | refine gl tb ?_ | refine gg tb ?_ | refine ll tb ?_ | refine lg tb ?_))
    exact G.lp (x := (n + 1, i, out)) (n, i + 1 + m, out) (by repeat (first | exact Sub.nil _ | refine Sub.cons rfl ?_)) ⟨hx, by simp only; omega, by simp only; omega, hb, outB (i := i + 1 + m) (Nat.le_trans hol (Nat.mul_le_mul_right _ (by omega))), hL⟩ (by simp only; omega)
  have hlk : 2 * k + 1 < g.length := by omega
  have hge : ∀ j, j < g.length → (g.map inC)[j]? = some [.int .i64 (g.getD j 0)] := fun j hj => by
    rw [List.getElem?_map, List.getD_eq_getElem?_getD, List.getElem?_eq_getElem hj]; rfl
  have hg1 := hge (2 * k) (by omega)
  have hg2 := hge (2 * k + 1) hlk
  have hgp : Rx.grpP x g k = if 0 ≤ g.getD (2 * k) 0 ∧ g.getD (2 * k) 0 ≤ g.getD (2 * k + 1) 0 ∧ g.getD (2 * k + 1) 0 ≤ x.length then (x.drop (g.getD (2 * k) 0).toNat).take ((g.getD (2 * k + 1) 0).toNat - (g.getD (2 * k) 0).toNat) else [] := by
    unfold Rx.grpP; rw [if_pos hlk]
  generalize g.getD (2 * k) 0 = f1 at hg1 hgp
  generalize g.getD (2 * k + 1) 0 = f2 at hg2 hgp
  clear hge hc
  try (first | refine gl tb ?_ | refine gg tb ?_ | refine ll tb ?_ | refine lg tb ?_); repeat ((first | refine G.condT rfl ?_ | refine G.condF rfl ?_ | refine sFa tb ?_ | refine sLd tb ?_ | refine sLa tb ?_ | refine sLen tb ?_ | refine sFd tb ?_ | refine sBd tb ?_ | refine sBa tb ?_); try (first | refine gl tb ?_ | refine gg tb ?_ | refine ll tb ?_ | refine lg tb ?_))
  refine G.regionM [(0, true), (1, true), (2, true), (3, true), (4, true), (5, true), (6, true), (7, true), (8, true), (9, true), (10, true), (11, true), (12, true)] (Ext W2) (by kernel_rfl) (by kernel_rfl) rfl mixed (Ext.drew W2) rfl ?_
  try (refine mm tb ?_); repeat ((first | refine dFa tb ?_ | refine dLd tb ?_ | refine dLa tb ?_ | refine dLen tb ?_ | refine dFd tb ?_); try (refine mm tb ?_))
  refine dAd tb (r := ((2 * k : Nat) : Int)) ?_
  try (refine mm tb ?_); repeat ((first | refine dFa tb ?_ | refine dLd tb ?_ | refine dLa tb ?_ | refine dLen tb ?_ | refine dFd tb ?_); try (refine mm tb ?_))
  refine dIa tb (2 * k) ?_ (hj := fun _ => ⟨rfl, by rw [hgm]; omega⟩)
  try (refine mm tb ?_); repeat ((first | refine dFa tb ?_ | refine dLd tb ?_ | refine dLa tb ?_ | refine dLen tb ?_ | refine dFd tb ?_); try (refine mm tb ?_))
  refine dAd tb (r := ((2 * k : Nat) : Int)) ?_
  try (refine mm tb ?_); repeat ((first | refine dFa tb ?_ | refine dLd tb ?_ | refine dLa tb ?_ | refine dLen tb ?_ | refine dFd tb ?_); try (refine mm tb ?_))
  refine dAd tb (r := ((2 * k + 1 : Nat) : Int)) ?_
  try (refine mm tb ?_); repeat ((first | refine dFa tb ?_ | refine dLd tb ?_ | refine dLa tb ?_ | refine dLen tb ?_ | refine dFd tb ?_); try (refine mm tb ?_))
  refine dIa tb (2 * k + 1) ?_ (hj := fun _ => ⟨rfl, by rw [hgm]; omega⟩)
  try (refine mm tb ?_); repeat ((first | refine dFa tb ?_ | refine dLd tb ?_ | refine dLa tb ?_ | refine dLen tb ?_ | refine dFd tb ?_); try (refine mm tb ?_))
  refine GM.nil ?_
  have hxd := Ext.drew W2
  have hb := Bld.ext hb hxd
  have hx := hx.trans hxd
  generalize W2.drew = W3 at hb hx ⊢
  try (first | refine gl tb ?_ | refine gg tb ?_ | refine ll tb ?_ | refine lg tb ?_); repeat ((first | refine G.condT rfl ?_ | refine G.condF rfl ?_ | refine sFa tb ?_ | refine sLd tb ?_ | refine sLa tb ?_ | refine sLen tb ?_ | refine sFd tb ?_ | refine sBd tb ?_ | refine sBa tb ?_); try (first | refine gl tb ?_ | refine gg tb ?_ | refine ll tb ?_ | refine lg tb ?_))
  first | refine G.condD rfl (fun hc => ?_) (fun hc => ?_) | refine G.condN rfl (fun hc => ?_) (fun hc => ?_) | refine G.cond rfl (fun hc => ?_) (fun hc => ?_)
  · have hc' : 0 ≤ f1 ∧ f1 ≤ f2 ∧ f2 ≤ x.length := by
      simp only [Bool.and_eq_true, decide_eq_true_eq] at hc
      omega
    rw [if_pos hc'] at hgp
    obtain ⟨a1, ha1⟩ := Int.eq_ofNat_of_zero_le hc'.1
    obtain ⟨a2, ha2⟩ := Int.eq_ofNat_of_zero_le (show 0 ≤ f2 by omega)
    subst ha1 ha2
    rw [Int.toNat_natCast, Int.toNat_natCast] at hgp
    rw [hgp] at hL hgl
    try (first | refine gl tb ?_ | refine gg tb ?_ | refine ll tb ?_ | refine lg tb ?_); repeat ((first | refine G.condT rfl ?_ | refine G.condF rfl ?_ | refine sFa tb ?_ | refine sLd tb ?_ | refine sLa tb ?_ | refine sLen tb ?_ | refine sFd tb ?_ | refine sBd tb ?_ | refine sBa tb ?_); try (first | refine gl tb ?_ | refine gg tb ?_ | refine ll tb ?_ | refine lg tb ?_))
    refine GL.cons (Step.sliceS tb a1 a2 rfl (Op1.of rfl (by first | exact fun _ => rfl | exact fun h => h | exact fun h => bL h | exact fun h => bL (bL h) | exact fun h => bL (bL (bL h)))) (Op1.of rfl (by first | exact fun _ => rfl | exact fun h => h | exact fun h => bL h | exact fun h => bL (bL h) | exact fun h => bL (bL (bL h)))) (Op1.of rfl (by first | exact fun _ => rfl | exact fun h => h | exact fun h => bL h | exact fun h => bL (bL h) | exact fun h => bL (bL (bL h)))) rfl (fun _ => ⟨rfl, rfl, by omega, by omega⟩) rfl ?_)
    try (first | refine gl tb ?_ | refine gg tb ?_ | refine ll tb ?_ | refine lg tb ?_); repeat ((first | refine G.condT rfl ?_ | refine G.condF rfl ?_ | refine sFa tb ?_ | refine sLd tb ?_ | refine sLa tb ?_ | refine sLen tb ?_ | refine sFd tb ?_ | refine sBd tb ?_ | refine sBa tb ?_); try (first | refine gl tb ?_ | refine gg tb ?_ | refine ll tb ?_ | refine lg tb ?_))
    refine sCall c62 (wstr_ok w.heap.size w.heap.size _ ((x.drop a1).take (a2 - a1)) W3 hb (by omega) hx.size) ?_
    rintro _ W4 ⟨hb4, hx4⟩
    try (first | refine gl tb ?_ | refine gg tb ?_ | refine ll tb ?_ | refine lg tb ?_); repeat ((first | refine G.condT rfl ?_ | refine G.condF rfl ?_ | refine sFa tb ?_ | refine sLd tb ?_ | refine sLa tb ?_ | refine sLen tb ?_ | refine sFd tb ?_ | refine sBd tb ?_ | refine sBa tb ?_); try (first | refine gl tb ?_ | refine gg tb ?_ | refine ll tb ?_ | refine lg tb ?_))
    exact G.lp (x := (n + 1, i, out)) (n, i + 1 + m, out ++ (x.drop a1).take (a2 - a1)) (by repeat (first | exact Sub.nil _ | refine Sub.cons rfl ?_)) ⟨Below.trans (B := w.heap.size) hx hx4, by simp only; omega, by simp only; omega, hb4, outB (i := i + 1 + m) (by rw [List.length_append]; omega), hL⟩ (by simp only; omega)
  · have hc' : ¬ (0 ≤ f1 ∧ f1 ≤ f2 ∧ f2 ≤ x.length) := by
      rintro ⟨h1, h2, h3⟩
      simp only [Bool.and_eq_false_iff, decide_eq_false_iff_not] at hc
      omega
    rw [if_neg hc'] at hgp
    rw [hgp, List.append_nil] at hL
    try (first | refine gl tb ?_ | refine gg tb ?_ | refine ll tb ?_ | refine lg tb ?_); repeat ((first | refine G.condT rfl ?_ | refine G.condF rfl ?_ | refine sFa tb ?_ | refine sLd tb ?_ | refine sLa tb ?_ | refine sLen tb ?_ | refine sFd tb ?_ | refine sBd tb ?_ | refine sBa tb ?_); try (first | refine gl tb ?_ | refine gg tb ?_ | refine ll tb ?_ | refine lg tb ?_))
    exact G.lp (x := (n + 1, i, out)) (n, i + 1 + m, out) (by repeat (first | exact Sub.nil _ | refine Sub.cons rfl ?_)) ⟨hx, by simp only; omega, by simp only; omega, hb, outB (i := i + 1 + m) (Nat.le_trans hol (Nat.mul_le_mul_right _ (by omega))), hL⟩ (by simp only; omega)
end Go.Proofs.YtmkckngecjpklaaDoor
end
section
open Go Go.Vg Go.RowKit Go.Proofs Go.Proofs.YtmkckngecjpklaaDoor
namespace Go.Proofs.YtmkckngecjpklaaDoor
set_option linter.unusedSimpArgs false

theorem tabsL {w : World} (h : Tabs w) : Lab.Tabs w := h
/-- put in plain words -/
def badP (name value : List UInt8) : Bool := !Lab.namedB false name || decide ((1024 : Int) < value.length) || !Lib.validD value || (decide (name = Lab.nameS) && !decide (value = []) && !Lab.namedB true value)
def putR (ls : List Lab.Lab) (name value : List UInt8) : List Lab.Lab :=
  if badP name value = true then ls else if 64 < (Lab.withS ls name value).length then ls else Lab.withS ls name value

def PutS (v : Value) (ls out : List Lab.Lab) (w : World) (r : Value) (w' : World) : Prop := ((r = v ∧ out = ls) ∨ Lab.LO w' w.heap.size r out) ∧ Ext w w'
theorem PutS.labs {v r : Value} {ls out : List Lab.Lab} {w w' : World} (h : PutS v ls out w r w') (hv : Lab.Labs w v ls) : Lab.Labs w' r out := by
  obtain ⟨⟨rfl, rfl⟩ | ho, hx⟩ := h
  · exact hv.to hx
  · exact ho.sli
theorem put_okR (v : Value) (ls : List Lab.Lab) (name value : List UInt8) (w : World) (hv : Lab.Labs w v ls) (hs : Lab.sortedL ls) (hn : ls.length ≤ 1000) (h1 : Lab.Sz name) (h2 : Lab.Sz value) (hT : Tabs w) :
    Ret Tryd.prog 37 ⟨[v, S name, S value]⟩ w fun r w' => PutS v ls (putR ls name value) w r w' := by
  refine ret_of_G Tryd.func37 rfl Tryd.ntmps37 rfl ?_
  simp only [argEnv]
  try (first | refine gl tb ?_ | refine gg tb ?_ | refine ll tb ?_ | refine lg tb ?_); repeat ((first | refine G.condT rfl ?_ | refine G.condF rfl ?_ | refine sFa tb ?_ | refine sLd tb ?_ | refine sLa tb ?_ | refine sLen tb ?_ | refine sFd tb ?_ | refine sBd tb ?_ | refine sBa tb ?_); try (first | refine gl tb ?_ | refine gg tb ?_ | refine ll tb ?_ | refine lg tb ?_))
  refine sCall c25 (Lab.rightName_ok name w h1) ?_
  rintro _ w1 ⟨rfl, hx1⟩
  try (first | refine gl tb ?_ | refine gg tb ?_ | refine ll tb ?_ | refine lg tb ?_); repeat ((first | refine G.condT rfl ?_ | refine G.condF rfl ?_ | refine sFa tb ?_ | refine sLd tb ?_ | refine sLa tb ?_ | refine sLen tb ?_ | refine sFd tb ?_ | refine sBd tb ?_ | refine sBa tb ?_); try (first | refine gl tb ?_ | refine gg tb ?_ | refine ll tb ?_ | refine lg tb ?_))
  refine sCallx c56 (fun hc => Lab.validS_ok value w1 h2 (tabsL (hT.to hx1))) ?_
  intro w2 hx2
  have hx02 := hx1.trans hx2
  try (first | refine gl tb ?_ | refine gg tb ?_ | refine ll tb ?_ | refine lg tb ?_); repeat ((first | refine G.condT rfl ?_ | refine G.condF rfl ?_ | refine sFa tb ?_ | refine sLd tb ?_ | refine sLa tb ?_ | refine sLen tb ?_ | refine sFd tb ?_ | refine sBd tb ?_ | refine sBa tb ?_); try (first | refine gl tb ?_ | refine gg tb ?_ | refine ll tb ?_ | refine lg tb ?_))
  refine sCallx c57 (fun hc => Lab.rightMetric_ok value w2 h2) ?_
  intro w3 hx3
  have hx03 := hx02.trans hx3
  try (first | refine gl tb ?_ | refine gg tb ?_ | refine ll tb ?_ | refine lg tb ?_); repeat ((first | refine G.condT rfl ?_ | refine G.condF rfl ?_ | refine sFa tb ?_ | refine sLd tb ?_ | refine sLa tb ?_ | refine sLen tb ?_ | refine sFd tb ?_ | refine sBd tb ?_ | refine sBa tb ?_); try (first | refine gl tb ?_ | refine gg tb ?_ | refine ll tb ?_ | refine lg tb ?_))
  first | refine G.condD rfl (fun hc => ?_) (fun hc => ?_) | refine G.condN rfl (fun hc => ?_) (fun hc => ?_) | refine G.cond rfl (fun hc => ?_) (fun hc => ?_)
  · try (first | refine gl tb ?_ | refine gg tb ?_ | refine ll tb ?_ | refine lg tb ?_); repeat ((first | refine G.condT rfl ?_ | refine G.condF rfl ?_ | refine sFa tb ?_ | refine sLd tb ?_ | refine sLa tb ?_ | refine sLen tb ?_ | refine sFd tb ?_ | refine sBd tb ?_ | refine sBa tb ?_); try (first | refine gl tb ?_ | refine gg tb ?_ | refine ll tb ?_ | refine lg tb ?_))
    refine G.ret1 rfl rfl rfl rfl ?_
    have e : putR ls name value = ls := if_pos hc
    rw [e]; exact ⟨.inl ⟨rfl, rfl⟩, hx03⟩
  · have e : putR ls name value = if 64 < (Lab.withS ls name value).length then ls else Lab.withS ls name value := if_neg (by rw [show badP name value = false from hc]; simp)
    rw [e]
    try (first | refine gl tb ?_ | refine gg tb ?_ | refine ll tb ?_ | refine lg tb ?_); repeat ((first | refine G.condT rfl ?_ | refine G.condF rfl ?_ | refine sFa tb ?_ | refine sLd tb ?_ | refine sLa tb ?_ | refine sLen tb ?_ | refine sFd tb ?_ | refine sBd tb ?_ | refine sBa tb ?_); try (first | refine gl tb ?_ | refine gg tb ?_ | refine ll tb ?_ | refine lg tb ?_))
    refine sCall c58 (Lab.with_ok v ls name value w3 (hv.to hx03) hs hn) ?_
    rintro r w4 ⟨ho4, hx4⟩
    have hx04 := hx03.trans hx4
    have hsl := ho4.sli
    try (first | refine gl tb ?_ | refine gg tb ?_ | refine ll tb ?_ | refine lg tb ?_); repeat ((first | refine G.condT rfl ?_ | refine G.condF rfl ?_ | refine sFa tb ?_ | refine sLd tb ?_ | refine sLa tb ?_ | refine sLen tb ?_ | refine sFd tb ?_ | refine sBd tb ?_ | refine sBa tb ?_); try (first | refine gl tb ?_ | refine gg tb ?_ | refine ll tb ?_ | refine lg tb ?_))
    rw [List.length_map]
    try (first | refine gl tb ?_ | refine gg tb ?_ | refine ll tb ?_ | refine lg tb ?_); repeat ((first | refine G.condT rfl ?_ | refine G.condF rfl ?_ | refine sFa tb ?_ | refine sLd tb ?_ | refine sLa tb ?_ | refine sLen tb ?_ | refine sFd tb ?_ | refine sBd tb ?_ | refine sBa tb ?_); try (first | refine gl tb ?_ | refine gg tb ?_ | refine ll tb ?_ | refine lg tb ?_))
    first | refine G.condD rfl (fun hc => ?_) (fun hc => ?_) | refine G.condN rfl (fun hc => ?_) (fun hc => ?_) | refine G.cond rfl (fun hc => ?_) (fun hc => ?_)
    · try (first | refine gl tb ?_ | refine gg tb ?_ | refine ll tb ?_ | refine lg tb ?_); repeat ((first | refine G.condT rfl ?_ | refine G.condF rfl ?_ | refine sFa tb ?_ | refine sLd tb ?_ | refine sLa tb ?_ | refine sLen tb ?_ | refine sFd tb ?_ | refine sBd tb ?_ | refine sBa tb ?_); try (first | refine gl tb ?_ | refine gg tb ?_ | refine ll tb ?_ | refine lg tb ?_))
      refine G.ret1 rfl rfl rfl rfl ?_
      rw [if_pos (by omega)]; exact ⟨.inl ⟨rfl, rfl⟩, hx04⟩
    · try (first | refine gl tb ?_ | refine gg tb ?_ | refine ll tb ?_ | refine lg tb ?_); repeat ((first | refine G.condT rfl ?_ | refine G.condF rfl ?_ | refine sFa tb ?_ | refine sLd tb ?_ | refine sLa tb ?_ | refine sLen tb ?_ | refine sFd tb ?_ | refine sBd tb ?_ | refine sBa tb ?_); try (first | refine gl tb ?_ | refine gg tb ?_ | refine ll tb ?_ | refine lg tb ?_))
      refine G.ret1 rfl rfl rfl rfl ?_
      rw [if_neg (by omega)]; exact ⟨.inr (ho4.mono hx03.size), hx04⟩
theorem join_okR (s : Value) (sep : List UInt8) (ss : List (List UInt8)) (B : Nat) (w : World) (h : Owns w B s 9 1 (ss.map strC)) (hl : (Lib.join ss sep).length ≤ 140737488355328) :
    Ret Tryd.prog 54 ⟨[s, S sep]⟩ w fun r w' => r = S (Lib.join ss sep) ∧ Ext w w' := by
  have hlen := h.2.2
  rw [List.length_map] at hlen
  have hfl : ∀ (j : Nat) (x : List UInt8), ss[j]? = some x → (ss.map fun s => [S s]).flatten[j]? = some (S x) := by
    intro j x hj
    have := flatten_get (k := 1) (ss.map fun s => [S s]) h.2.1 j [S x] (by simp [hj]) 0 (S x) rfl
    simpa using this
  rcases h.1.2 with ⟨rfl, hn⟩ | ⟨g, cap, cur, rfl, hB, hg, hc, hm, hs, ht⟩
  · have : ss = [] := by simpa using hn
    subst this
    refine Calls.mono (Any.strings_Join_none Tryd.lays156 Tryd.Builder_Extra_156 none 0 ⟨⟨sep⟩⟩ w) ?_
    rintro e w' ⟨he, rfl⟩
    refine ⟨_, he, ?_, Ext.refl _⟩
    rw [Lib.join_nil]; rfl
  · rw [List.length_map] at hc ht ⊢
    have hmap : ((ss.map fun s => (⟨⟨s⟩⟩ : ByteArray)).map (·.data.toList)) = ss := by simp [Function.comp_def]
    have key := Any.strings_Join Tryd.lays156 Tryd.Builder_Extra_156 g 0 cap (ss.map fun s => (⟨⟨s⟩⟩ : ByteArray)) ⟨⟨sep⟩⟩ w ?_ (Array.getElem?_eq_some_iff.1 hg).1 (by simpa using hlen) (by simpa using hc) (by rw [hmap]; exact hl)
    · rw [hmap, List.length_map] at key
      exact Calls.mono key fun e w' ⟨he, hb⟩ => ⟨_, he, rfl, hb⟩
    · intro j x hx
      simp only [List.getElem?_map, Option.map_eq_some_iff] at hx
      obtain ⟨y, hy, rfl⟩ := hx
      have h1 := hfl j y hy
      rw [show (fun s : List UInt8 => [S s]) = strC from rfl, ← ht] at h1
      have h2 : j < ss.length * 1 := by have := (List.getElem?_eq_some_iff.1 hy).1; omega
      rw [List.getElem?_take_of_lt h2] at h1
      rw [Nat.zero_add, cell_of_row w g j cur _ (0, 0) hg]
      have h3 : cur[j]? = some (S y) := by simpa using h1
      exact h3
/-- a rule in memory -/
structure Rule where
  act : Int
  src : List (List UInt8)
  sep : List UInt8
  re : List UInt8
  mod : Int
  tgt : List UInt8
  repl : List UInt8
def relC (r : Rule) (sv : Value) : List Value := [.int .i64 r.act, sv, S r.sep, S r.re, .int .i64 r.mod, S r.tgt, S r.repl]
abbrev Srcs (w : World) (r : Rule) (sv : Value) : Prop := Sli w sv 1 (r.src.map strC)
def wordsR (ls : List Lab.Lab) (r : Rule) : List (List UInt8) := r.src.map (Lab.getL ls)
def textR (ls : List Lab.Lab) (r : Rule) : List UInt8 := Lib.join (wordsR ls r) r.sep
theorem str1 (l : List (List UInt8)) : ∀ y ∈ l.map strC, ∀ c ∈ y, c.oneCell' = true := by
  intro y hy c hc
  simp only [List.mem_map] at hy
  obtain ⟨z, _, rfl⟩ := hy
  simp only [strC, List.mem_cons, List.not_mem_nil, or_false] at hc
  subst hc; rfl
theorem text_okR (v sv : Value) (ls : List Lab.Lab) (r : Rule) (w : World) (hv : Lab.Labs w v ls) (hu : Srcs w r sv) (hn : r.src.length ≤ 1000) (hl : (textR ls r).length ≤ 140737488355328) :
    Ret Tryd.prog 35 ⟨[v, .agg ⟨relC r sv⟩]⟩ w fun x w' => x = S (textR ls r) ∧ Ext w w' := by
  refine ret_of_G Tryd.func35 rfl Tryd.ntmps35 rfl ?_
  simp only [argEnv]
  try (first | refine gl tb ?_ | refine gg tb ?_ | refine ll tb ?_ | refine lg tb ?_); repeat ((first | refine G.condT rfl ?_ | refine G.condF rfl ?_ | refine sFa tb ?_ | refine sLd tb ?_ | refine sLa tb ?_ | refine sLen tb ?_ | refine sFd tb ?_ | refine sBd tb ?_ | refine sBa tb ?_); try (first | refine gl tb ?_ | refine gg tb ?_ | refine ll tb ?_ | refine lg tb ?_))
  refine sBox (fun W1 hb1 hs1 hx1 => ?_)
  have hu1 := hu.to hx1
  try (first | refine gl tb ?_ | refine gg tb ?_ | refine ll tb ?_ | refine lg tb ?_); repeat ((first | refine G.condT rfl ?_ | refine G.condF rfl ?_ | refine sFa tb ?_ | refine sLd tb ?_ | refine sLa tb ?_ | refine sLen tb ?_ | refine sFd tb ?_ | refine sBd tb ?_ | refine sBa tb ?_); try (first | refine gl tb ?_ | refine gg tb ?_ | refine ll tb ?_ | refine lg tb ?_))
  rw [List.length_map]
  refine (G.loop (fun x : Nat × Value => [(0, none, v), (3, none, ptr w.heap.size), (5, none, x.2), (9, none, sv), (10, none, .int .i64 r.src.length), (11, none, .int .i64 x.1)])
    (fun x W => Ext W1 W ∧ x.1 ≤ r.src.length ∧ Owns W W1.heap.size x.2 9 1 (((r.src.take x.1).map (Lab.getL ls)).map strC)) (fun x => r.src.length - x.1) (0, nilV) (by repeat (first | exact Sub.nil _ | refine Sub.cons rfl ?_)) ⟨Ext.refl _, Nat.zero_le _, Owns.nil _ _ _ _⟩ ?_)
  rintro ⟨k, s⟩ W ⟨hx, hk, ho⟩
  simp only at hk ho ⊢
  have huW := hu1.to hx
  have hbW := hb1.to hx
  try (first | refine gl tb ?_ | refine gg tb ?_ | refine ll tb ?_ | refine lg tb ?_); repeat ((first | refine G.condT rfl ?_ | refine G.condF rfl ?_ | refine sFa tb ?_ | refine sLd tb ?_ | refine sLa tb ?_ | refine sLen tb ?_ | refine sFd tb ?_ | refine sBd tb ?_ | refine sBa tb ?_); try (first | refine gl tb ?_ | refine gg tb ?_ | refine ll tb ?_ | refine lg tb ?_))
  first | refine G.condD rfl (fun hc => ?_) (fun hc => ?_) | refine G.condN rfl (fun hc => ?_) (fun hc => ?_) | refine G.cond rfl (fun hc => ?_) (fun hc => ?_)
  · have hlt : k < r.src.length := by omega
    have hget : (r.src.map strC)[k]? = some (strC r.src[k]) := by simp [hlt]
    have htk : r.src.take (k + 1) = r.src.take k ++ [r.src[k]] := by rw [List.take_succ_eq_append_getElem hlt]
    have hln : ((r.src.take k).map (Lab.getL ls)).length ≤ 1000 := by rw [List.length_map, List.length_take]; omega
    try (first | refine gl tb ?_ | refine gg tb ?_ | refine ll tb ?_ | refine lg tb ?_); repeat ((first | refine G.condT rfl ?_ | refine G.condF rfl ?_ | refine sFa tb ?_ | refine sLd tb ?_ | refine sLa tb ?_ | refine sLen tb ?_ | refine sFd tb ?_ | refine sBd tb ?_ | refine sIa tb k ?_); try (first | refine gl tb ?_ | refine gg tb ?_ | refine ll tb ?_ | refine lg tb ?_))
    refine sCall c53 (Lab.get_ok v ls r.src[k] W (hv.to (hx1.trans hx))) ?_
    rintro _ W2 ⟨rfl, hx2⟩
    try (first | refine gl tb ?_ | refine gg tb ?_ | refine ll tb ?_ | refine lg tb ?_); repeat ((first | refine G.condT rfl ?_ | refine G.condF rfl ?_ | refine sFa tb ?_ | refine sLd tb ?_ | refine sLa tb ?_ | refine sLen tb ?_ | refine sFd tb ?_ | refine sBd tb ?_ | refine sBa tb ?_); try (first | refine gl tb ?_ | refine gg tb ?_ | refine ll tb ?_ | refine lg tb ?_))
    refine sBs' tb [strC (Lab.getL ls r.src[k])] ?_ (hkl := by simp [strC])
    intro v3 W3 ho3 hs3 hx3
    have hx03 := (hx.trans hx2).trans hx3
    refine sApp tb (ho.to (hx2.trans hx3)) ho3.sli ?_ (h1 := str1 [Lab.getL ls r.src[k]]) (hB := hx03.size)
    intro v4 W4 ho4 hg4
    try (first | refine gl tb ?_ | refine gg tb ?_ | refine ll tb ?_ | refine lg tb ?_); repeat ((first | refine G.condT rfl ?_ | refine G.condF rfl ?_ | refine sFa tb ?_ | refine sLd tb ?_ | refine sLa tb ?_ | refine sLen tb ?_ | refine sFd tb ?_ | refine sBd tb ?_ | refine sBa tb ?_); try (first | refine gl tb ?_ | refine gg tb ?_ | refine ll tb ?_ | refine lg tb ?_))
    refine sAd tb ?_
    try (first | refine gl tb ?_ | refine gg tb ?_ | refine ll tb ?_ | refine lg tb ?_); repeat ((first | refine G.condT rfl ?_ | refine G.condF rfl ?_ | refine sFa tb ?_ | refine sLd tb ?_ | refine sLa tb ?_ | refine sLen tb ?_ | refine sFd tb ?_ | refine sBd tb ?_ | refine sBa tb ?_); try (first | refine gl tb ?_ | refine gg tb ?_ | refine ll tb ?_ | refine lg tb ?_))
    refine G.lp (x := (k, s)) (k + 1, v4) (by repeat (first | exact Sub.nil _ | refine Sub.cons rfl ?_)) ⟨hg4.below _ hx03, by simp only; omega, ?_⟩ (by simp only; omega)
    simp only [htk]
    rw [List.map_append, List.map_append]; exact ho4
  · obtain rfl : k = r.src.length := by omega
    rw [List.take_length] at ho
    try (first | refine gl tb ?_ | refine gg tb ?_ | refine ll tb ?_ | refine lg tb ?_); repeat ((first | refine G.condT rfl ?_ | refine G.condF rfl ?_ | refine sFa tb ?_ | refine sLd tb ?_ | refine sLa tb ?_ | refine sLen tb ?_ | refine sFd tb ?_ | refine sBd tb ?_ | refine sBa tb ?_); try (first | refine gl tb ?_ | refine gg tb ?_ | refine ll tb ?_ | refine lg tb ?_))
    refine sCall c54 (join_okR s r.sep (wordsR ls r) _ W ho hl) ?_
    rintro _ W2 ⟨rfl, hx2⟩
    try (first | refine gl tb ?_ | refine gg tb ?_ | refine ll tb ?_ | refine lg tb ?_); repeat ((first | refine G.condT rfl ?_ | refine G.condF rfl ?_ | refine sFa tb ?_ | refine sLd tb ?_ | refine sLa tb ?_ | refine sLen tb ?_ | refine sFd tb ?_ | refine sBd tb ?_ | refine sBa tb ?_); try (first | refine gl tb ?_ | refine gg tb ?_ | refine ll tb ?_ | refine lg tb ?_))
    refine G.ret1 rfl rfl rfl rfl ?_
    exact ⟨rfl, (hx1.trans hx).trans hx2⟩
end Go.Proofs.YtmkckngecjpklaaDoor
end
section
open Go Go.Vg Go.RowKit Go.Proofs Go.Proofs.YtmkckngecjpklaaDoor
namespace Go.Proofs.YtmkckngecjpklaaDoor
set_option linter.unusedSimpArgs false

def rightR (r : Rule) : Bool :=
  if (decide (r.act < 1) || decide (9 < r.act)) = true then false
  else match Rx.comp r.re with
    | .error _ => false
    | .ok _ => if r.src.all (Lab.namedB false) = true then
        (if r.act = 4 then decide (1 ≤ r.mod) && Lab.namedB false r.tgt else if (decide (r.act = 8) || decide (r.act = 9)) = true then Lab.namedB false r.tgt else if r.act = 1 then !decide (r.tgt = []) else true) else false
structure RuleSz (r : Rule) : Prop where
  src : r.src.length ≤ 1000
  srcs : ∀ s ∈ r.src, Lab.Sz s
  re : r.re.length ≤ 1000
  tgt : r.tgt.length ≤ 2000
  repl : r.repl.length ≤ 2000
  sep : r.sep.length ≤ 1000

theorem right_okR (sv : Value) (r : Rule) (w : World) (hu : Srcs w r sv) (hz : RuleSz r) (hT : Tabs w) :
    Ret Tryd.prog 12 ⟨[.agg ⟨relC r sv⟩]⟩ w fun x w' => x = .bool (rightR r) ∧ Ext w w' := by
  refine ret_of_G Tryd.func12 rfl Tryd.ntmps12 rfl ?_
  simp only [argEnv]
  try (first | refine gl tb ?_ | refine gg tb ?_ | refine ll tb ?_ | refine lg tb ?_); repeat ((first | refine G.condT rfl ?_ | refine G.condF rfl ?_ | refine sFa tb ?_ | refine sLd tb ?_ | refine sLa tb ?_ | refine sLen tb ?_ | refine sFd tb ?_ | refine sBd tb ?_ | refine sBa tb ?_); try (first | refine gl tb ?_ | refine gg tb ?_ | refine ll tb ?_ | refine lg tb ?_))
  refine sBox (fun W1 hb1 hs1 hx1 => ?_)
  have hu1 := hu.to hx1
  have hsrc := hz.src
  try (first | refine gl tb ?_ | refine gg tb ?_ | refine ll tb ?_ | refine lg tb ?_); repeat ((first | refine G.condT rfl ?_ | refine G.condF rfl ?_ | refine sFa tb ?_ | refine sLd tb ?_ | refine sLa tb ?_ | refine sLen tb ?_ | refine sFd tb ?_ | refine sBd tb ?_ | refine sBa tb ?_); try (first | refine gl tb ?_ | refine gg tb ?_ | refine ll tb ?_ | refine lg tb ?_))
  first | refine G.condD rfl (fun hc => ?_) (fun hc => ?_) | refine G.condN rfl (fun hc => ?_) (fun hc => ?_) | refine G.cond rfl (fun hc => ?_) (fun hc => ?_)
  · try (first | refine gl tb ?_ | refine gg tb ?_ | refine ll tb ?_ | refine lg tb ?_); repeat ((first | refine G.condT rfl ?_ | refine G.condF rfl ?_ | refine sFa tb ?_ | refine sLd tb ?_ | refine sLa tb ?_ | refine sLen tb ?_ | refine sFd tb ?_ | refine sBd tb ?_ | refine sBa tb ?_); try (first | refine gl tb ?_ | refine gg tb ?_ | refine ll tb ?_ | refine lg tb ?_))
    refine G.ret1 rfl rfl rfl rfl ?_
    exact ⟨by rw [rightR, if_pos hc], hx1⟩
  have hc0 := hc
  clear hc
  try (first | refine gl tb ?_ | refine gg tb ?_ | refine ll tb ?_ | refine lg tb ?_); repeat ((first | refine G.condT rfl ?_ | refine G.condF rfl ?_ | refine sFa tb ?_ | refine sLd tb ?_ | refine sLa tb ?_ | refine sLen tb ?_ | refine sFd tb ?_ | refine sBd tb ?_ | refine sBa tb ?_); try (first | refine gl tb ?_ | refine gg tb ?_ | refine ll tb ?_ | refine lg tb ?_))
  refine sCall c24 (comp_ok W1 r.re (hT.to hx1) (by have := hz.re; omega)) ?_
  rintro _ W2 ⟨hx2, ⟨t, g, pb, hcm, hE, rfl⟩ | ⟨e, f, hcm, rfl⟩⟩
  rotate_left
  · obtain ⟨n, hn, h0⟩ : ∃ n : Int, (if f = 1 then (8 : Int) else 9) = n ∧ n ≠ 0 := ⟨_, rfl, by split <;> omega⟩
    rw [hn]
    try (first | refine gl tb ?_ | refine gg tb ?_ | refine ll tb ?_ | refine lg tb ?_); repeat ((first | refine G.condT rfl ?_ | refine G.condF rfl ?_ | refine sFa tb ?_ | refine sLd tb ?_ | refine sLa tb ?_ | refine sLen tb ?_ | refine sFd tb ?_ | refine sBd tb ?_ | refine sBa tb ?_); try (first | refine gl tb ?_ | refine gg tb ?_ | refine ll tb ?_ | refine lg tb ?_))
    first | refine G.condD rfl (fun hc => ?_) (fun hc => ?_) | refine G.condN rfl (fun hc => ?_) (fun hc => ?_) | refine G.cond rfl (fun hc => ?_) (fun hc => ?_)
    · try (first | refine gl tb ?_ | refine gg tb ?_ | refine ll tb ?_ | refine lg tb ?_); repeat ((first | refine G.condT rfl ?_ | refine G.condF rfl ?_ | refine sFa tb ?_ | refine sLd tb ?_ | refine sLa tb ?_ | refine sLen tb ?_ | refine sFd tb ?_ | refine sBd tb ?_ | refine sBa tb ?_); try (first | refine gl tb ?_ | refine gg tb ?_ | refine ll tb ?_ | refine lg tb ?_))
      refine G.ret1 rfl rfl rfl rfl ?_
      exact ⟨by rw [rightR, if_neg (by rw [hc0]; simp), hcm], hx1.trans hx2⟩
    · exact absurd hc h0
  try (first | refine gl tb ?_ | refine gg tb ?_ | refine ll tb ?_ | refine lg tb ?_); repeat ((first | refine G.condT rfl ?_ | refine G.condF rfl ?_ | refine sFa tb ?_ | refine sLd tb ?_ | refine sLa tb ?_ | refine sLen tb ?_ | refine sFd tb ?_ | refine sBd tb ?_ | refine sBa tb ?_); try (first | refine gl tb ?_ | refine gg tb ?_ | refine ll tb ?_ | refine lg tb ?_))
  have hx02 := hx1.trans hx2
  have hu2 := hu.to hx02
  have hb2 := hb1.to hx2
  try (first | refine gl tb ?_ | refine gg tb ?_ | refine ll tb ?_ | refine lg tb ?_); repeat ((first | refine G.condT rfl ?_ | refine G.condF rfl ?_ | refine sFa tb ?_ | refine sLd tb ?_ | refine sLa tb ?_ | refine sLen tb ?_ | refine sFd tb ?_ | refine sBd tb ?_ | refine sBa tb ?_); try (first | refine gl tb ?_ | refine gg tb ?_ | refine ll tb ?_ | refine lg tb ?_))
  rw [List.length_map]
  try (first | refine gl tb ?_ | refine gg tb ?_ | refine ll tb ?_ | refine lg tb ?_); repeat ((first | refine G.condT rfl ?_ | refine G.condF rfl ?_ | refine sFa tb ?_ | refine sLd tb ?_ | refine sLa tb ?_ | refine sLen tb ?_ | refine sFd tb ?_ | refine sBd tb ?_ | refine sBa tb ?_); try (first | refine gl tb ?_ | refine gg tb ?_ | refine ll tb ?_ | refine lg tb ?_))
  refine (G.loop (fun k : Nat => [(0, none, .agg ⟨relC r sv⟩), (1, none, ptr w.heap.size), (26, none, sv), (27, none, .int .i64 r.src.length), (28, none, .int .i64 k)])
    (fun k W => Ext W2 W ∧ k ≤ r.src.length ∧ (r.src.take k).all (Lab.namedB false) = true) (fun k => r.src.length - k) 0 (by repeat (first | exact Sub.nil _ | refine Sub.cons rfl ?_)) ⟨Ext.refl _, Nat.zero_le _, rfl⟩ ?_)
  rintro k W ⟨hx, hk, hall⟩
  have huW := hu2.to hx
  have hbW := hb2.to hx
  try (first | refine gl tb ?_ | refine gg tb ?_ | refine ll tb ?_ | refine lg tb ?_); repeat ((first | refine G.condT rfl ?_ | refine G.condF rfl ?_ | refine sFa tb ?_ | refine sLd tb ?_ | refine sLa tb ?_ | refine sLen tb ?_ | refine sFd tb ?_ | refine sBd tb ?_ | refine sBa tb ?_); try (first | refine gl tb ?_ | refine gg tb ?_ | refine ll tb ?_ | refine lg tb ?_))
  first | refine G.condD rfl (fun hc => ?_) (fun hc => ?_) | refine G.condN rfl (fun hc => ?_) (fun hc => ?_) | refine G.cond rfl (fun hc => ?_) (fun hc => ?_)
  · have hlt : k < r.src.length := by omega
    have hget : (r.src.map strC)[k]? = some (strC r.src[k]) := by simp [hlt]
    have htk : r.src.take (k + 1) = r.src.take k ++ [r.src[k]] := by rw [List.take_succ_eq_append_getElem hlt]
    try (first | refine gl tb ?_ | refine gg tb ?_ | refine ll tb ?_ | refine lg tb ?_); repeat ((first | refine G.condT rfl ?_ | refine G.condF rfl ?_ | refine sFa tb ?_ | refine sLd tb ?_ | refine sLa tb ?_ | refine sLen tb ?_ | refine sFd tb ?_ | refine sBd tb ?_ | refine sIa tb k ?_); try (first | refine gl tb ?_ | refine gg tb ?_ | refine ll tb ?_ | refine lg tb ?_))
    refine sCall c25 (Lab.rightName_ok r.src[k] W (hz.srcs _ (List.getElem_mem hlt))) ?_
    rintro _ W3 ⟨rfl, hx3⟩
    try (first | refine gl tb ?_ | refine gg tb ?_ | refine ll tb ?_ | refine lg tb ?_); repeat ((first | refine G.condT rfl ?_ | refine G.condF rfl ?_ | refine sFa tb ?_ | refine sLd tb ?_ | refine sLa tb ?_ | refine sLen tb ?_ | refine sFd tb ?_ | refine sBd tb ?_ | refine sBa tb ?_); try (first | refine gl tb ?_ | refine gg tb ?_ | refine ll tb ?_ | refine lg tb ?_))
    first | refine G.condD rfl (fun hc => ?_) (fun hc => ?_) | refine G.condN rfl (fun hc => ?_) (fun hc => ?_) | refine G.cond rfl (fun hc => ?_) (fun hc => ?_)
    · try (first | refine gl tb ?_ | refine gg tb ?_ | refine ll tb ?_ | refine lg tb ?_); repeat ((first | refine G.condT rfl ?_ | refine G.condF rfl ?_ | refine sFa tb ?_ | refine sLd tb ?_ | refine sLa tb ?_ | refine sLen tb ?_ | refine sFd tb ?_ | refine sBd tb ?_ | refine sBa tb ?_); try (first | refine gl tb ?_ | refine gg tb ?_ | refine ll tb ?_ | refine lg tb ?_))
      refine G.ret1 rfl rfl rfl rfl ?_
      refine ⟨?_, (hx02.trans hx).trans hx3⟩
      rw [rightR, if_neg (by rw [hc0]; simp), hcm]
      simp only
      rw [if_neg]
      intro h
      rw [List.all_eq_true] at h
      rw [h _ (List.getElem_mem hlt)] at hc
      cases hc
    · try (first | refine gl tb ?_ | refine gg tb ?_ | refine ll tb ?_ | refine lg tb ?_); repeat ((first | refine G.condT rfl ?_ | refine G.condF rfl ?_ | refine sFa tb ?_ | refine sLd tb ?_ | refine sLa tb ?_ | refine sLen tb ?_ | refine sFd tb ?_ | refine sBd tb ?_ | refine sBa tb ?_); try (first | refine gl tb ?_ | refine gg tb ?_ | refine ll tb ?_ | refine lg tb ?_))
      refine sAd tb ?_
      try (first | refine gl tb ?_ | refine gg tb ?_ | refine ll tb ?_ | refine lg tb ?_); repeat ((first | refine G.condT rfl ?_ | refine G.condF rfl ?_ | refine sFa tb ?_ | refine sLd tb ?_ | refine sLa tb ?_ | refine sLen tb ?_ | refine sFd tb ?_ | refine sBd tb ?_ | refine sBa tb ?_); try (first | refine gl tb ?_ | refine gg tb ?_ | refine ll tb ?_ | refine lg tb ?_))
      refine G.lp (k + 1) (by repeat (first | exact Sub.nil _ | refine Sub.cons rfl ?_)) ⟨hx.trans hx3, by omega, ?_⟩ (by omega)
      rw [htk, List.all_append, hall]
      simpa using hc
  · obtain rfl : k = r.src.length := by omega
    rw [List.take_length] at hall
    have hxa := hx02.trans hx
    have e0 : rightR r = (if r.act = 4 then decide (1 ≤ r.mod) && Lab.namedB false r.tgt else if (decide (r.act = 8) || decide (r.act = 9)) = true then Lab.namedB false r.tgt else if r.act = 1 then !decide (r.tgt = []) else true) := by
      rw [rightR, if_neg (by rw [hc0]; simp), hcm]
      simp only
      rw [if_pos hall]
    have htz : Lab.Sz r.tgt := by have := hz.tgt; show _ ≤ 9223372036854775807; omega
    rw [e0]
    try (first | refine gl tb ?_ | refine gg tb ?_ | refine ll tb ?_ | refine lg tb ?_); repeat ((first | refine G.condT rfl ?_ | refine G.condF rfl ?_ | refine sFa tb ?_ | refine sLd tb ?_ | refine sLa tb ?_ | refine sLen tb ?_ | refine sFd tb ?_ | refine sBd tb ?_ | refine sBa tb ?_); try (first | refine gl tb ?_ | refine gg tb ?_ | refine ll tb ?_ | refine lg tb ?_))
    first | refine G.condD rfl (fun hc => ?_) (fun hc => ?_) | refine G.condN rfl (fun hc => ?_) (fun hc => ?_) | refine G.cond rfl (fun hc => ?_) (fun hc => ?_)
    · rw [if_pos hc]
      try (first | refine gl tb ?_ | refine gg tb ?_ | refine ll tb ?_ | refine lg tb ?_); repeat ((first | refine G.condT rfl ?_ | refine G.condF rfl ?_ | refine sFa tb ?_ | refine sLd tb ?_ | refine sLa tb ?_ | refine sLen tb ?_ | refine sFd tb ?_ | refine sBd tb ?_ | refine sBa tb ?_); try (first | refine gl tb ?_ | refine gg tb ?_ | refine ll tb ?_ | refine lg tb ?_))
      refine sCallx c25 (fun hc => Lab.rightName_ok r.tgt W htz) ?_
      intro W3 hx3
      try (first | refine gl tb ?_ | refine gg tb ?_ | refine ll tb ?_ | refine lg tb ?_); repeat ((first | refine G.condT rfl ?_ | refine G.condF rfl ?_ | refine sFa tb ?_ | refine sLd tb ?_ | refine sLa tb ?_ | refine sLen tb ?_ | refine sFd tb ?_ | refine sBd tb ?_ | refine sBa tb ?_); try (first | refine gl tb ?_ | refine gg tb ?_ | refine ll tb ?_ | refine lg tb ?_))
      refine G.ret1 rfl rfl rfl rfl ?_
      exact ⟨rfl, hxa.trans hx3⟩
    · rw [if_neg hc]
      try (first | refine gl tb ?_ | refine gg tb ?_ | refine ll tb ?_ | refine lg tb ?_); repeat ((first | refine G.condT rfl ?_ | refine G.condF rfl ?_ | refine sFa tb ?_ | refine sLd tb ?_ | refine sLa tb ?_ | refine sLen tb ?_ | refine sFd tb ?_ | refine sBd tb ?_ | refine sBa tb ?_); try (first | refine gl tb ?_ | refine gg tb ?_ | refine ll tb ?_ | refine lg tb ?_))
      first | refine G.condD rfl (fun hc => ?_) (fun hc => ?_) | refine G.condN rfl (fun hc => ?_) (fun hc => ?_) | refine G.cond rfl (fun hc => ?_) (fun hc => ?_)
      · try (first | refine gl tb ?_ | refine gg tb ?_ | refine ll tb ?_ | refine lg tb ?_); repeat ((first | refine G.condT rfl ?_ | refine G.condF rfl ?_ | refine sFa tb ?_ | refine sLd tb ?_ | refine sLa tb ?_ | refine sLen tb ?_ | refine sFd tb ?_ | refine sBd tb ?_ | refine sBa tb ?_); try (first | refine gl tb ?_ | refine gg tb ?_ | refine ll tb ?_ | refine lg tb ?_))
        first | refine G.condD rfl (fun hc => ?_) (fun hc => ?_) | refine G.condN rfl (fun hc => ?_) (fun hc => ?_) | refine G.cond rfl (fun hc => ?_) (fun hc => ?_)
        · rw [if_pos (by simp [hc])]
          try (first | refine gl tb ?_ | refine gg tb ?_ | refine ll tb ?_ | refine lg tb ?_); repeat ((first | refine G.condT rfl ?_ | refine G.condF rfl ?_ | refine sFa tb ?_ | refine sLd tb ?_ | refine sLa tb ?_ | refine sLen tb ?_ | refine sFd tb ?_ | refine sBd tb ?_ | refine sBa tb ?_); try (first | refine gl tb ?_ | refine gg tb ?_ | refine ll tb ?_ | refine lg tb ?_))
          refine sCall c25 (Lab.rightName_ok r.tgt W htz) ?_
          rintro _ W3 ⟨rfl, hx3⟩
          try (first | refine gl tb ?_ | refine gg tb ?_ | refine ll tb ?_ | refine lg tb ?_); repeat ((first | refine G.condT rfl ?_ | refine G.condF rfl ?_ | refine sFa tb ?_ | refine sLd tb ?_ | refine sLa tb ?_ | refine sLen tb ?_ | refine sFd tb ?_ | refine sBd tb ?_ | refine sBa tb ?_); try (first | refine gl tb ?_ | refine gg tb ?_ | refine ll tb ?_ | refine lg tb ?_))
          refine G.ret1 rfl rfl rfl rfl ?_
          exact ⟨rfl, hxa.trans hx3⟩
        · exact absurd (by assumption) hc
      · have h8 := hc
        try (first | refine gl tb ?_ | refine gg tb ?_ | refine ll tb ?_ | refine lg tb ?_); repeat ((first | refine G.condT rfl ?_ | refine G.condF rfl ?_ | refine sFa tb ?_ | refine sLd tb ?_ | refine sLa tb ?_ | refine sLen tb ?_ | refine sFd tb ?_ | refine sBd tb ?_ | refine sBa tb ?_); try (first | refine gl tb ?_ | refine gg tb ?_ | refine ll tb ?_ | refine lg tb ?_))
        first | refine G.condD rfl (fun hc => ?_) (fun hc => ?_) | refine G.condN rfl (fun hc => ?_) (fun hc => ?_) | refine G.cond rfl (fun hc => ?_) (fun hc => ?_)
        · rw [if_pos (by simp [hc])]
          try (first | refine gl tb ?_ | refine gg tb ?_ | refine ll tb ?_ | refine lg tb ?_); repeat ((first | refine G.condT rfl ?_ | refine G.condF rfl ?_ | refine sFa tb ?_ | refine sLd tb ?_ | refine sLa tb ?_ | refine sLen tb ?_ | refine sFd tb ?_ | refine sBd tb ?_ | refine sBa tb ?_); try (first | refine gl tb ?_ | refine gg tb ?_ | refine ll tb ?_ | refine lg tb ?_))
          refine sCall c25 (Lab.rightName_ok r.tgt W htz) ?_
          rintro _ W3 ⟨rfl, hx3⟩
          try (first | refine gl tb ?_ | refine gg tb ?_ | refine ll tb ?_ | refine lg tb ?_); repeat ((first | refine G.condT rfl ?_ | refine G.condF rfl ?_ | refine sFa tb ?_ | refine sLd tb ?_ | refine sLa tb ?_ | refine sLen tb ?_ | refine sFd tb ?_ | refine sBd tb ?_ | refine sBa tb ?_); try (first | refine gl tb ?_ | refine gg tb ?_ | refine ll tb ?_ | refine lg tb ?_))
          refine G.ret1 rfl rfl rfl rfl ?_
          exact ⟨rfl, hxa.trans hx3⟩
        · rw [if_neg (by simp [h8, hc])]
          try (first | refine gl tb ?_ | refine gg tb ?_ | refine ll tb ?_ | refine lg tb ?_); repeat ((first | refine G.condT rfl ?_ | refine G.condF rfl ?_ | refine sFa tb ?_ | refine sLd tb ?_ | refine sLa tb ?_ | refine sLen tb ?_ | refine sFd tb ?_ | refine sBd tb ?_ | refine sBa tb ?_); try (first | refine gl tb ?_ | refine gg tb ?_ | refine ll tb ?_ | refine lg tb ?_))
          first | refine G.condD rfl (fun hc => ?_) (fun hc => ?_) | refine G.condN rfl (fun hc => ?_) (fun hc => ?_) | refine G.cond rfl (fun hc => ?_) (fun hc => ?_)
          · rw [if_pos hc]
            try (first | refine gl tb ?_ | refine gg tb ?_ | refine ll tb ?_ | refine lg tb ?_); repeat ((first | refine G.condT rfl ?_ | refine G.condF rfl ?_ | refine sFa tb ?_ | refine sLd tb ?_ | refine sLa tb ?_ | refine sLen tb ?_ | refine sFd tb ?_ | refine sBd tb ?_ | refine sBa tb ?_); try (first | refine gl tb ?_ | refine gg tb ?_ | refine ll tb ?_ | refine lg tb ?_))
            refine G.ret1 rfl rfl rfl rfl ?_
            exact ⟨rfl, hxa⟩
          · rw [if_neg hc]
            try (first | refine gl tb ?_ | refine gg tb ?_ | refine ll tb ?_ | refine lg tb ?_); repeat ((first | refine G.condT rfl ?_ | refine G.condF rfl ?_ | refine sFa tb ?_ | refine sLd tb ?_ | refine sLa tb ?_ | refine sLen tb ?_ | refine sFd tb ?_ | refine sBd tb ?_ | refine sBa tb ?_); try (first | refine gl tb ?_ | refine gg tb ?_ | refine ll tb ?_ | refine lg tb ?_))
            refine G.ret1 rfl rfl rfl rfl ?_
            exact ⟨rfl, hxa⟩
end Go.Proofs.YtmkckngecjpklaaDoor
end
section
open Go Go.Vg Go.RowKit Go.Proofs Go.Proofs.YtmkckngecjpklaaDoor
namespace Go.Proofs.YtmkckngecjpklaaDoor
set_option linter.unusedSimpArgs false

theorem expL_len (t x : List UInt8) (g : List Int) : ∀ (n i : Nat) (out : List UInt8), (Rx.expL t x g n i out).length ≤ out.length + n * (x.length + 1)
  | 0, _, out => by simp [Rx.expL]
  | n + 1, i, out => by
    have h1 := expL_len t x g n (i + 1) (out ++ [t.getD i 0])
    have h2 := expL_len t x g n (i + 2) (out ++ [36])
    have h3 := expL_len t x g n (i + 1) (out ++ [36])
    have h4 := expL_len t x g n (i + 1 + (Rx.namedP (t.drop (i + 1))).2) (out ++ Rx.grpP x g (Rx.namedP (t.drop (i + 1))).1)
    have h5 := Rx.grpP_len x g (Rx.namedP (t.drop (i + 1))).1
    simp only [List.length_append, List.length_cons, List.length_nil] at h1 h2 h3 h4
    rw [Nat.succ_mul]
    rw [Rx.expL]
    split
    · split
      · omega
      · split
        · omega
        · split <;> omega
    · omega
theorem expand_len {t x : List UInt8} {g : List Int} (h1 : t.length ≤ 2000) (h2 : x.length ≤ 100000) : (Rx.expandP t x g).length ≤ 2001 * 100001 := by
  have := expL_len t x g (t.length + 1) 0 []
  have h3 : (t.length + 1) * (x.length + 1) ≤ 2001 * 100001 := Nat.mul_le_mul (by omega) (by omega)
  unfold Rx.expandP
  simp only [List.length_nil] at this
  omega
def ruleR (ls : List Lab.Lab) (r : Rule) (t : Rx.T) (g : Nat) : List Lab.Lab × Bool :=
  if r.act = 1 then match Rx.groupsP (Rx.progT t) g (textR ls r) with
    | none => (ls, true)
    | some gs => (putR ls (Rx.expandP r.tgt (textR ls r) gs) (Rx.expandP r.repl (textR ls r) gs), true)
  else if r.act = 2 then (ls, Rx.mt t g (textR ls r))
  else (ls, !Rx.mt t g (textR ls r))

/-- what a rule leaves: what it was given, or a row of its own -/
def Upd (w : World) (v : Value) (ls : List Lab.Lab) (w' : World) (u : Value) (out : List Lab.Lab) : Prop := (u = v ∧ out = ls) ∨ Lab.LO w' w.heap.size u out
theorem Upd.lo {w w' : World} {B : Nat} {v u : Value} {ls out : List Lab.Lab} (h : Upd w v ls w' u out) (hv : Lab.LO w B v ls) (hB : B ≤ w.heap.size) (hx : Ext w w') : Lab.LO w' B u out := by
  rcases h with ⟨rfl, rfl⟩ | h
  · exact hv.to hx
  · exact Owns.mono h hB
theorem rule_okR (v sv : Value) (ls : List Lab.Lab) (r : Rule) (t : Rx.T) (g : Nat) (w : World) (hv : Lab.Labs w v ls) (hso : Lab.sortedL ls) (hn : ls.length ≤ 1000) (hu : Srcs w r sv) (hz : RuleSz r)
    (hcm : Rx.comp r.re = .ok (t, g)) (ha : r.act = 1 ∨ r.act = 2 ∨ r.act = 3) (hl : (textR ls r).length ≤ 100000) (hT : Tabs w) :
    Ret Tryd.prog 26 ⟨[v, .agg ⟨relC r sv⟩]⟩ w fun x w' => ∃ u, x = .tuple ⟨[u, .bool (ruleR ls r t g).2]⟩ ∧ Upd w v ls w' u (ruleR ls r t g).1 ∧ Ext w w' := by
  refine ret_of_G Tryd.func26 rfl Tryd.ntmps26 rfl ?_
  simp only [argEnv]
  try (first | refine gl tb ?_ | refine gg tb ?_ | refine ll tb ?_ | refine lg tb ?_); repeat ((first | refine G.condT rfl ?_ | refine G.condF rfl ?_ | refine sFa tb ?_ | refine sLd tb ?_ | refine sLa tb ?_ | refine sLen tb ?_ | refine sFd tb ?_ | refine sBd tb ?_ | refine sBa tb ?_); try (first | refine gl tb ?_ | refine gg tb ?_ | refine ll tb ?_ | refine lg tb ?_))
  refine sBox (fun W1 hb1 hs1 hx1 => ?_)
  try (first | refine gl tb ?_ | refine gg tb ?_ | refine ll tb ?_ | refine lg tb ?_); repeat ((first | refine G.condT rfl ?_ | refine G.condF rfl ?_ | refine sFa tb ?_ | refine sLd tb ?_ | refine sLa tb ?_ | refine sLen tb ?_ | refine sFd tb ?_ | refine sBd tb ?_ | refine sBa tb ?_); try (first | refine gl tb ?_ | refine gg tb ?_ | refine ll tb ?_ | refine lg tb ?_))
  refine sBox (fun W2 hb2 hs2 hx2 => ?_)
  have hx02 := hx1.trans hx2
  have hv2 := hv.to hx02
  have hu2 := hu.to hx02
  have hb12 := hb1.to hx2
  try (first | refine gl tb ?_ | refine gg tb ?_ | refine ll tb ?_ | refine lg tb ?_); repeat ((first | refine G.condT rfl ?_ | refine G.condF rfl ?_ | refine sFa tb ?_ | refine sLd tb ?_ | refine sLa tb ?_ | refine sLen tb ?_ | refine sFd tb ?_ | refine sBd tb ?_ | refine sBa tb ?_); try (first | refine gl tb ?_ | refine gg tb ?_ | refine ll tb ?_ | refine lg tb ?_))
  refine sCall c24 (comp_ok W2 r.re (hT.to hx02) (by have := hz.re; omega)) ?_
  rintro _ W3 ⟨hx3, ⟨t', g', pb, hcm', hE, rfl⟩ | ⟨e, f, hcm', rfl⟩⟩
  rotate_left
  · rw [hcm] at hcm'; cases hcm'
  rw [hcm] at hcm'
  simp only [Except.ok.injEq, Prod.mk.injEq] at hcm'
  obtain ⟨rfl, rfl⟩ := hcm'
  have hx03 := hx02.trans hx3
  try (first | refine gl tb ?_ | refine gg tb ?_ | refine ll tb ?_ | refine lg tb ?_); repeat ((first | refine G.condT rfl ?_ | refine G.condF rfl ?_ | refine sFa tb ?_ | refine sLd tb ?_ | refine sLa tb ?_ | refine sLen tb ?_ | refine sFd tb ?_ | refine sBd tb ?_ | refine sBa tb ?_); try (first | refine gl tb ?_ | refine gg tb ?_ | refine ll tb ?_ | refine lg tb ?_))
  refine sAl tb ?_
  intro W4 hb4 hs4 hx4
  refine sSt tb ?_ (vs := [ptr pb]) (hv := rfl) (hb := hb4) (h1 := by simp [Value.oneCell', ptr])
  intro W5 hb5 hw5
  have hx35 : Ext W3 W5 := Below.wr hx4 hw5 (Nat.le_refl _)
  have hx05 := hx03.trans hx35
  have hb15 := hb12.to (hx3.trans hx35)
  have hb25 := hb2.to (hx3.trans hx35)
  have hv5 := hv.to hx05
  have hu5 := hu.to hx05
  have hE5 := hE.to hx35
  try (first | refine gl tb ?_ | refine gg tb ?_ | refine ll tb ?_ | refine lg tb ?_); repeat ((first | refine G.condT rfl ?_ | refine G.condF rfl ?_ | refine sFa tb ?_ | refine sLd tb ?_ | refine sLa tb ?_ | refine sLen tb ?_ | refine sFd tb ?_ | refine sBd tb ?_ | refine sBa tb ?_); try (first | refine gl tb ?_ | refine gg tb ?_ | refine ll tb ?_ | refine lg tb ?_))
  refine sCall c35 (text_okR v sv ls r W5 hv5 hu5 hz.src (by omega)) ?_
  rintro _ W6 ⟨rfl, hx6⟩
  have hx06 := hx05.trans hx6
  have hb16 := hb15.to hx6
  have hb26 := hb25.to hx6
  have hb56 := hb5.to hx6
  have hE6 := hE5.to hx6
  have hv6 := hv5.to hx6
  have hT6 := hT.to hx06
  generalize hs : textR ls r = s at hl ⊢
  have hlt5 : W2.heap.size ≤ W3.heap.size := hx3.size
  try (first | refine gl tb ?_ | refine gg tb ?_ | refine ll tb ?_ | refine lg tb ?_); repeat ((first | refine G.condT rfl ?_ | refine G.condF rfl ?_ | refine sFa tb ?_ | refine sLd tb ?_ | refine sLa tb ?_ | refine sLen tb ?_ | refine sFd tb ?_ | refine sBd tb ?_ | refine sBa tb ?_); try (first | refine gl tb ?_ | refine gg tb ?_ | refine ll tb ?_ | refine lg tb ?_))
  first | refine G.condD rfl (fun hc => ?_) (fun hc => ?_) | refine G.condN rfl (fun hc => ?_) (fun hc => ?_) | refine G.cond rfl (fun hc => ?_) (fun hc => ?_)
  · have e : ruleR ls r t g = match Rx.groupsP (Rx.progT t) g s with
      | none => (ls, true)
      | some gs => (putR ls (Rx.expandP r.tgt s gs) (Rx.expandP r.repl s gs), true) := by rw [ruleR, if_pos hc, hs]
    try (first | refine gl tb ?_ | refine gg tb ?_ | refine ll tb ?_ | refine lg tb ?_); repeat ((first | refine G.condT rfl ?_ | refine G.condF rfl ?_ | refine sFa tb ?_ | refine sLd tb ?_ | refine sLa tb ?_ | refine sLen tb ?_ | refine sFd tb ?_ | refine sBd tb ?_ | refine sBa tb ?_); try (first | refine gl tb ?_ | refine gg tb ?_ | refine ll tb ?_ | refine lg tb ?_))
    refine sCall c36 (groups_ok W6 pb t g s hT6 hE6 hl) ?_
    rintro _ W7 ⟨hx7, ⟨hr, rfl⟩ | ⟨l, gv, hr, ho, rfl⟩⟩
    · rw [hr] at e
      have hb17 := hb16.to hx7
      try (first | refine gl tb ?_ | refine gg tb ?_ | refine ll tb ?_ | refine lg tb ?_); repeat ((first | refine G.condT rfl ?_ | refine G.condF rfl ?_ | refine sFa tb ?_ | refine sLd tb ?_ | refine sLa tb ?_ | refine sLen tb ?_ | refine sFd tb ?_ | refine sBd tb ?_ | refine sBa tb ?_); try (first | refine gl tb ?_ | refine gg tb ?_ | refine ll tb ?_ | refine lg tb ?_))
      refine G.ret2 rfl rfl rfl rfl rfl ?_
      rw [e]; exact ⟨_, rfl, .inl ⟨rfl, rfl⟩, hx06.trans hx7⟩
    · rw [hr] at e
      simp only at e
      have hb17 := hb16.to hx7
      have hb27 := hb26.to hx7
      try (first | refine gl tb ?_ | refine gg tb ?_ | refine ll tb ?_ | refine lg tb ?_); repeat ((first | refine G.condT rfl ?_ | refine G.condF rfl ?_ | refine sFa tb ?_ | refine sLd tb ?_ | refine sLa tb ?_ | refine sLen tb ?_ | refine sFd tb ?_ | refine sBd tb ?_ | refine sBa tb ?_); try (first | refine gl tb ?_ | refine gg tb ?_ | refine ll tb ?_ | refine lg tb ?_))
      have hgl : l.length ≤ 100000 := by
        unfold Rx.groupsP at hr
        rw [Option.map_eq_some_iff] at hr
        obtain ⟨l0, h0, rfl⟩ := hr
        have := Rx.runP_len (Rx.wf_prog hE6.num) h0
        rw [Rx.noEnd_len]; have := hE6.g; omega
      have hb17d := hb17.to (Ext.drew W7)
      have hb27d := hb27.to (Ext.drew W7)
      have hgo := ho.sli.to (Ext.drew W7)
      have hv7d := hv6.to (hx7.trans (Ext.drew W7))
      have hT7d := hT6.to (hx7.trans (Ext.drew W7))
      have hx07d := hx06.trans (hx7.trans (Ext.drew W7))
      have hel1 := expand_len (t := r.tgt) (x := s) (g := l) hz.tgt hl
      have hel2 := expand_len (t := r.repl) (x := s) (g := l) hz.repl hl
      have hzW : w.heap.size + 2 ≤ W7.drew.heap.size := by
        have h1 := (Ext.drew W7).size
        have h2 := hx7.size
        have h3 := hx6.size
        have h4 := hx35.size
        omega
      refine G.regionG (fun w' => Bx w' W1.heap.size (relC r sv)) mixed hb27d ?_
      generalize W7.drew = W at hzW hb17d hb27d hgo hv7d hT7d hx07d ⊢
      have hexp1 : ∀ W', Ext W W' → _ := fun W' hx' => expand_ok r.tgt s l gv W' hz.tgt hl hgl (hgo.to hx')
      have hexp2 : ∀ W', Ext W W' → _ := fun W' hx' => expand_ok r.repl s l gv W' hz.repl hl hgl (hgo.to hx')
      generalize hex1 : Rx.expandP r.tgt s l = e1 at e hel1 hexp1
      generalize hex2 : Rx.expandP r.repl s l = e2 at e hel2 hexp2
      refine GD.join [0, 1, 2, 3, 4, 5, 6, 7, 8, 9, 10] (fun _ : Unit => [(2, none, ptr w.heap.size), (3, none, ptr W1.heap.size), (40, none, v), (45, none, S e1), (50, none, S e2)]) (fun _ w' => Ext W w') ?_ fun meet => ?_
      · rintro _ Wa hxa
        have hxa : Ext W Wa := hxa
        refine GD.steps ([(11, false), (12, false)]) (by kernel_rfl) (by kernel_rfl) rfl ?_
        refine GM.eff (Step.callF rfl rfl rfl c37 rfl (put_okR v ls e1 e2 Wa (hv7d.to hxa) hso hn (by show _ ≤ _; omega) (by show _ ≤ _; omega) (hT7d.to hxa)) ?_)
        rintro pv Wb hps
        have hp := hps.labs (hv7d.to hxa)
        have hxb := hps.2
        have hxab := hxa.trans hxb
        refine ⟨hb27d.to hxab, ?_⟩
        have hbs := hb17d.to hxab
        refine GM.eff (Step.store0 tb rfl (Op1.of rfl (by first | exact fun _ => rfl | exact fun h => h | exact fun h => bL h | exact fun h => bL (bL h) | exact fun h => bL (bL (bL h)))) (Op1.of rfl (by first | exact fun _ => rfl | exact fun h => h | exact fun h => bL h | exact fun h => bL (bL h) | exact fun h => bL (bL (bL h)))) rfl (hp.cells) rfl (by simp [hp.one]) hbs rfl ?_)
        intro Wc hbc hwc
        have hx0b := hx07d.trans hxab
        have hx0c : Ext w Wc := Below.wr hx0b hwc (Nat.le_refl _)
        refine ⟨(hb27d.to hxab).wr hwc (by omega), ?_⟩
        refine GM.nil ?_
        refine GD.done (by kernel_rfl) ?_
        try (first | refine gl tb ?_ | refine gg tb ?_ | refine ll tb ?_ | refine lg tb ?_); repeat ((first | refine G.condT rfl ?_ | refine G.condF rfl ?_ | refine sFa tb ?_ | refine sLd tb ?_ | refine sLa tb ?_ | refine sLen tb ?_ | refine sFd tb ?_ | refine sBd tb ?_ | refine sBa tb ?_); try (first | refine gl tb ?_ | refine gg tb ?_ | refine ll tb ?_ | refine lg tb ?_))
        refine G.ret2 rfl rfl rfl rfl rfl ?_
        rw [e]
        refine ⟨_, rfl, ?_, hx0c⟩
        rcases hps.1 with ⟨rfl, h0⟩ | ho
        · exact .inl ⟨rfl, h0⟩
        · exact .inr (Owns.mono (Owns.wr ho hwc (by have := hxa.size; omega)) (by have := hxa.size; omega))
      · refine GD.steps ([(1, true), (2, true), (3, true), (4, true), (6, true), (7, true), (8, true), (9, true)]) (by kernel_rfl) (by kernel_rfl) rfl ?_
        try (refine mm tb ?_); repeat ((first | refine dFa tb ?_ | refine dLd tb ?_ | refine dLa tb ?_ | refine dLen tb ?_ | refine dFd tb ?_); try (refine mm tb ?_))
        refine dLd tb (u := S r.tgt) ?_ (hc := fun w' hS _ => Bx.ci hS (by exact rfl))
        try (refine mm tb ?_); repeat ((first | refine dFa tb ?_ | refine dLd tb ?_ | refine dLa tb ?_ | refine dLen tb ?_ | refine dFd tb ?_); try (refine mm tb ?_))
        refine dLd tb (u := S r.repl) ?_ (hc := fun w' hS _ => Bx.ci hS (by exact rfl))
        try (refine mm tb ?_); repeat ((first | refine dFa tb ?_ | refine dLd tb ?_ | refine dLa tb ?_ | refine dLen tb ?_ | refine dFd tb ?_); try (refine mm tb ?_))
        refine GM.nil ?_
        refine GD.two (0) (5) (by kernel_rfl) (by kernel_rfl) rfl rfl ?_ ?_
        · refine (Step.load1 tb rfl (Op1.of rfl (by first | exact fun _ => rfl | exact fun h => h | exact fun h => bL h | exact fun h => bL (bL h) | exact fun h => bL (bL (bL h)))) rfl rfl (fun _ => hb17d.cells.one) rfl ?_)
          refine ⟨hb27d, ?_⟩
          refine GD.steps ([(5, false), (10, false)]) (by kernel_rfl) (by kernel_rfl) rfl ?_
          refine GM.eff (Step.callF rfl rfl rfl c38 rfl (hexp1 W (Ext.refl _)) ?_)
          rintro _ Wa ⟨rfl, hxa⟩
          refine ⟨hb27d.to hxa, ?_⟩
          refine GM.eff (Step.callF rfl rfl rfl c38 rfl (hexp2 Wa hxa) ?_)
          rintro _ Wb ⟨rfl, hxb⟩
          refine ⟨hb27d.to (hxa.trans hxb), ?_⟩
          refine GM.nil ?_
          exact meet () _ _ _ rfl rfl (by repeat (first | exact Sub.nil _ | refine Sub.cons rfl ?_)) (hxa.trans hxb)
        · refine (Step.callF rfl rfl rfl c38 rfl (hexp1 W (Ext.refl _)) ?_)
          rintro _ Wa ⟨rfl, hxa⟩
          refine ⟨hb27d.to hxa, ?_⟩
          refine GD.two (0) (10) (by kernel_rfl) (by kernel_rfl) rfl rfl ?_ ?_
          · refine (Step.load1 tb rfl (Op1.of rfl (by first | exact fun _ => rfl | exact fun h => h | exact fun h => bL h | exact fun h => bL (bL h) | exact fun h => bL (bL (bL h)))) rfl rfl (fun _ => (hb17d.to hxa).cells.one) rfl ?_)
            refine ⟨hb27d.to hxa, ?_⟩
            refine GD.steps ([(10, false)]) (by kernel_rfl) (by kernel_rfl) rfl ?_
            refine GM.eff (Step.callF rfl rfl rfl c38 rfl (hexp2 Wa hxa) ?_)
            rintro _ Wb ⟨rfl, hxb⟩
            refine ⟨hb27d.to (hxa.trans hxb), ?_⟩
            refine GM.nil ?_
            exact meet () _ _ _ rfl rfl (by repeat (first | exact Sub.nil _ | refine Sub.cons rfl ?_)) (hxa.trans hxb)
          · refine (Step.callF rfl rfl rfl c38 rfl (hexp2 Wa hxa) ?_)
            rintro _ Wb ⟨rfl, hxb⟩
            have hxab := hxa.trans hxb
            refine ⟨hb27d.to hxab, ?_⟩
            refine GD.steps ([(0, false)]) (by kernel_rfl) (by kernel_rfl) rfl ?_
            refine GM.eff ?_
            refine (Step.load1 tb rfl (Op1.of rfl (by first | exact fun _ => rfl | exact fun h => h | exact fun h => bL h | exact fun h => bL (bL h) | exact fun h => bL (bL (bL h)))) rfl rfl (fun _ => (hb17d.to hxab).cells.one) rfl ?_)
            refine ⟨hb27d.to hxab, ?_⟩
            refine GM.nil ?_
            exact meet () _ _ _ rfl rfl (by repeat (first | exact Sub.nil _ | refine Sub.cons rfl ?_)) hxab
  · have hc1 := hc
    try (first | refine gl tb ?_ | refine gg tb ?_ | refine ll tb ?_ | refine lg tb ?_); repeat ((first | refine G.condT rfl ?_ | refine G.condF rfl ?_ | refine sFa tb ?_ | refine sLd tb ?_ | refine sLa tb ?_ | refine sLen tb ?_ | refine sFd tb ?_ | refine sBd tb ?_ | refine sBa tb ?_); try (first | refine gl tb ?_ | refine gg tb ?_ | refine ll tb ?_ | refine lg tb ?_))
    first | refine G.condD rfl (fun hc => ?_) (fun hc => ?_) | refine G.condN rfl (fun hc => ?_) (fun hc => ?_) | refine G.cond rfl (fun hc => ?_) (fun hc => ?_)
    · have e : ruleR ls r t g = (ls, Rx.mt t g s) := by rw [ruleR, if_neg hc1, if_pos hc, hs]
      try (first | refine gl tb ?_ | refine gg tb ?_ | refine ll tb ?_ | refine lg tb ?_); repeat ((first | refine G.condT rfl ?_ | refine G.condF rfl ?_ | refine sFa tb ?_ | refine sLd tb ?_ | refine sLa tb ?_ | refine sLen tb ?_ | refine sFd tb ?_ | refine sBd tb ?_ | refine sBa tb ?_); try (first | refine gl tb ?_ | refine gg tb ?_ | refine ll tb ?_ | refine lg tb ?_))
      refine G.regionM [(0, true), (1, true), (2, true), (3, false), (4, true), (5, true)] (fun w' => Bx w' w.heap.size [v] ∧ Bx w' W3.heap.size [ptr pb]) (by kernel_rfl) (by kernel_rfl) rfl mixed (⟨hb16.to (Ext.drew W6), hb56.to (Ext.drew W6)⟩) rfl ?_
      refine dLd tb (u := v) ?_ (hc := fun w' hS _ => Bx.c0 hS.1 rfl)
      refine dLd tb (u := ptr pb) ?_ (hc := fun w' hS _ => Bx.c0 hS.2 rfl)
      try (refine mm tb ?_); repeat ((first | refine dFa tb ?_ | refine dLd tb ?_ | refine dLa tb ?_ | refine dLen tb ?_ | refine dFd tb ?_); try (refine mm tb ?_))
      refine GM.eff (Step.callF rfl rfl rfl c39 rfl (match_ok W6.drew pb t g s (hT6.to (Ext.drew W6)) (hE6.to (Ext.drew W6)) hl) ?_)
      rintro _ W7 ⟨rfl, hx7⟩
      have hx67 := (Ext.drew W6).trans hx7
      refine ⟨⟨hb16.to hx67, hb56.to hx67⟩, ?_⟩
      try (refine mm tb ?_); repeat ((first | refine dFa tb ?_ | refine dLd tb ?_ | refine dLa tb ?_ | refine dLen tb ?_ | refine dFd tb ?_); try (refine mm tb ?_))
      refine GM.nil ?_
      try (first | refine gl tb ?_ | refine gg tb ?_ | refine ll tb ?_ | refine lg tb ?_); repeat ((first | refine G.condT rfl ?_ | refine G.condF rfl ?_ | refine sFa tb ?_ | refine sLd tb ?_ | refine sLa tb ?_ | refine sLen tb ?_ | refine sFd tb ?_ | refine sBd tb ?_ | refine sBa tb ?_); try (first | refine gl tb ?_ | refine gg tb ?_ | refine ll tb ?_ | refine lg tb ?_))
      refine G.ret2 rfl rfl rfl rfl rfl ?_
      rw [e]; exact ⟨_, rfl, .inl ⟨rfl, rfl⟩, hx06.trans hx67⟩
    · have hc2 := hc
      have h3 : r.act = 3 := by omega
      have e : ruleR ls r t g = (ls, !Rx.mt t g s) := by rw [ruleR, if_neg hc1, if_neg hc2, hs]
      try (first | refine gl tb ?_ | refine gg tb ?_ | refine ll tb ?_ | refine lg tb ?_); repeat ((first | refine G.condT rfl ?_ | refine G.condF rfl ?_ | refine sFa tb ?_ | refine sLd tb ?_ | refine sLa tb ?_ | refine sLen tb ?_ | refine sFd tb ?_ | refine sBd tb ?_ | refine sBa tb ?_); try (first | refine gl tb ?_ | refine gg tb ?_ | refine ll tb ?_ | refine lg tb ?_))
      first | refine G.condD rfl (fun hc => ?_) (fun hc => ?_) | refine G.condN rfl (fun hc => ?_) (fun hc => ?_) | refine G.cond rfl (fun hc => ?_) (fun hc => ?_)
      rotate_left
      · exact absurd h3 hc
      try (first | refine gl tb ?_ | refine gg tb ?_ | refine ll tb ?_ | refine lg tb ?_); repeat ((first | refine G.condT rfl ?_ | refine G.condF rfl ?_ | refine sFa tb ?_ | refine sLd tb ?_ | refine sLa tb ?_ | refine sLen tb ?_ | refine sFd tb ?_ | refine sBd tb ?_ | refine sBa tb ?_); try (first | refine gl tb ?_ | refine gg tb ?_ | refine ll tb ?_ | refine lg tb ?_))
      refine G.regionM [(0, true), (1, true), (2, true), (3, false), (4, true), (5, true), (6, true)] (fun w' => Bx w' w.heap.size [v] ∧ Bx w' W3.heap.size [ptr pb]) (by kernel_rfl) (by kernel_rfl) rfl mixed (⟨hb16.to (Ext.drew W6), hb56.to (Ext.drew W6)⟩) rfl ?_
      refine dLd tb (u := v) ?_ (hc := fun w' hS _ => Bx.c0 hS.1 rfl)
      refine dLd tb (u := ptr pb) ?_ (hc := fun w' hS _ => Bx.c0 hS.2 rfl)
      try (refine mm tb ?_); repeat ((first | refine dFa tb ?_ | refine dLd tb ?_ | refine dLa tb ?_ | refine dLen tb ?_ | refine dFd tb ?_); try (refine mm tb ?_))
      refine GM.eff (Step.callF rfl rfl rfl c39 rfl (match_ok W6.drew pb t g s (hT6.to (Ext.drew W6)) (hE6.to (Ext.drew W6)) hl) ?_)
      rintro _ W7 ⟨rfl, hx7⟩
      have hx67 := (Ext.drew W6).trans hx7
      refine ⟨⟨hb16.to hx67, hb56.to hx67⟩, ?_⟩
      try (refine mm tb ?_); repeat ((first | refine dFa tb ?_ | refine dLd tb ?_ | refine dLa tb ?_ | refine dLen tb ?_ | refine dFd tb ?_); try (refine mm tb ?_))
      refine GM.nil ?_
      try (first | refine gl tb ?_ | refine gg tb ?_ | refine ll tb ?_ | refine lg tb ?_); repeat ((first | refine G.condT rfl ?_ | refine G.condF rfl ?_ | refine sFa tb ?_ | refine sLd tb ?_ | refine sLa tb ?_ | refine sLen tb ?_ | refine sFd tb ?_ | refine sBd tb ?_ | refine sBa tb ?_); try (first | refine gl tb ?_ | refine gg tb ?_ | refine ll tb ?_ | refine lg tb ?_))
      refine G.ret2 rfl rfl rfl rfl rfl ?_
      rw [e]; exact ⟨_, rfl, .inl ⟨rfl, rfl⟩, hx06.trans hx67⟩
end Go.Proofs.YtmkckngecjpklaaDoor
end
section
open Go Go.Vg Go.RowKit Go.Proofs Go.Proofs.YtmkckngecjpklaaDoor
namespace Go.Proofs.YtmkckngecjpklaaDoor
set_option linter.unusedSimpArgs false

def relF (F : Rule → List Lab.Lab → List Lab.Lab × Bool) : List Rule → List Lab.Lab → List Lab.Lab × Bool
  | [], ls => (ls, true)
  | r :: rs, ls => if rightR r = true then (if (F r ls).2 = true then relF F rs (F r ls).1 else ([], false)) else relF F rs ls
abbrev relC2 (p : Rule × Value) : List Value := relC p.1 p.2
/-- what a rule's walk must show -/
def RuleOk (F : Rule → List Lab.Lab → List Lab.Lab × Bool) (Inv : List Lab.Lab → Prop) (w : World) (p : Rule × Value) : Prop :=
  ∀ W v cur, rightR p.1 = true → Ext w W → Inv cur → Lab.Labs W v cur →
    Ret Tryd.prog 26 ⟨[v, .agg ⟨relC p.1 p.2⟩]⟩ W (fun x w' => ∃ u, x = .tuple ⟨[u, .bool (F p.1 cur).2]⟩ ∧ Upd W v cur w' u (F p.1 cur).1 ∧ Ext W w') ∧ ((F p.1 cur).2 = true → Inv (F p.1 cur).1)
theorem relC_one {r : Rule} {sv : Value} {w : World} (h : Srcs w r sv) : ∀ c ∈ relC r sv, c.oneCell' = true := by
  obtain ⟨a, cap, rfl, _⟩ := h.len
  simp [relC, Value.oneCell', S]
theorem relabel_ok (F : Rule → List Lab.Lab → List Lab.Lab × Bool) (Inv : List Lab.Lab → Prop) (v us : Value) (ls : List Lab.Lab) (rs : List (Rule × Value)) (w : World) (hv : Lab.Labs w v ls) (hi : Inv ls) (hn : ls.length ≤ 1000)
    (hu : Sli w us 7 (rs.map relC2)) (hsr : ∀ p ∈ rs, Srcs w p.1 p.2 ∧ RuleSz p.1 ∧ RuleOk F Inv w p) (hT : Tabs w) :
    Ret Tryd.prog 13 ⟨[v, us]⟩ w fun x w' => ∃ u, x = .tuple ⟨[u, .bool (relF F (rs.map (·.1)) ls).2]⟩ ∧ Lab.LO w' w.heap.size u (relF F (rs.map (·.1)) ls).1 ∧ Ext w w' := by
  have hbd := hu.bound
  rw [List.length_map] at hbd
  refine ret_of_G Tryd.func13 rfl Tryd.ntmps13 rfl ?_
  simp only [argEnv]
  try (first | refine gl tb ?_ | refine gg tb ?_ | refine ll tb ?_ | refine lg tb ?_); repeat ((first | refine G.condT rfl ?_ | refine G.condF rfl ?_ | refine sFa tb ?_ | refine sLd tb ?_ | refine sLa tb ?_ | refine sLen tb ?_ | refine sFd tb ?_ | refine sBd tb ?_ | refine sBa tb ?_); try (first | refine gl tb ?_ | refine gg tb ?_ | refine ll tb ?_ | refine lg tb ?_))
  refine G.scope rfl rfl ?_
  try (first | refine gl tb ?_ | refine gg tb ?_ | refine ll tb ?_ | refine lg tb ?_); repeat ((first | refine G.condT rfl ?_ | refine G.condF rfl ?_ | refine sFa tb ?_ | refine sLd tb ?_ | refine sLa tb ?_ | refine sLen tb ?_ | refine sFd tb ?_ | refine sBd tb ?_ | refine sBa tb ?_); try (first | refine gl tb ?_ | refine gg tb ?_ | refine ll tb ?_ | refine lg tb ?_))
  refine sApp tb (Owns.nil w w.heap.size 42 2) hv ?_ (h1 := Lab.lab1 ls) (hB := Nat.le_refl _)
  intro v1 W1 ho1 hg1
  have hx1 : Ext w W1 := hg1.below _ (Ext.refl _)
  rw [List.nil_append] at ho1
  have hv1 : Lab.LO W1 w.heap.size v1 ls := ho1
  have hu1 := hu.to hx1
  try (first | refine gl tb ?_ | refine gg tb ?_ | refine ll tb ?_ | refine lg tb ?_); repeat ((first | refine G.condT rfl ?_ | refine G.condF rfl ?_ | refine sFa tb ?_ | refine sLd tb ?_ | refine sLa tb ?_ | refine sLen tb ?_ | refine sFd tb ?_ | refine sBd tb ?_ | refine sBa tb ?_); try (first | refine gl tb ?_ | refine gg tb ?_ | refine ll tb ?_ | refine lg tb ?_))
  refine G.label ?_
  try (first | refine gl tb ?_ | refine gg tb ?_ | refine ll tb ?_ | refine lg tb ?_); repeat ((first | refine G.condT rfl ?_ | refine G.condF rfl ?_ | refine sFa tb ?_ | refine sLd tb ?_ | refine sLa tb ?_ | refine sLen tb ?_ | refine sFd tb ?_ | refine sBd tb ?_ | refine sBa tb ?_); try (first | refine gl tb ?_ | refine gg tb ?_ | refine ll tb ?_ | refine lg tb ?_))
  rw [List.length_map]
  try (first | refine gl tb ?_ | refine gg tb ?_ | refine ll tb ?_ | refine lg tb ?_); repeat ((first | refine G.condT rfl ?_ | refine G.condF rfl ?_ | refine sFa tb ?_ | refine sLd tb ?_ | refine sLa tb ?_ | refine sLen tb ?_ | refine sFd tb ?_ | refine sBd tb ?_ | refine sBa tb ?_); try (first | refine gl tb ?_ | refine gg tb ?_ | refine ll tb ?_ | refine lg tb ?_))
  refine (G.loop (fun x : Nat × Value × List Lab.Lab => [(0, none, x.2.1), (1, none, us), (6, none, .bool true), (11, none, us), (12, none, .int .i64 rs.length), (13, none, .int .i64 x.1)])
    (fun x W => Ext w W ∧ x.1 ≤ rs.length ∧ Lab.LO W w.heap.size x.2.1 x.2.2 ∧ Inv x.2.2 ∧ relF F (rs.map (·.1)) ls = relF F ((rs.drop x.1).map (·.1)) x.2.2) (fun x => rs.length - x.1) (0, v1, ls) (by repeat (first | exact Sub.nil _ | refine Sub.cons rfl ?_)) ⟨hx1, Nat.zero_le _, hv1, hi, rfl⟩ ?_)
  rintro ⟨k, s, cur⟩ W ⟨hx, hk, hs, hic, he⟩
  simp only at hk hs hic he ⊢
  have huW := hu.to hx
  try (first | refine gl tb ?_ | refine gg tb ?_ | refine ll tb ?_ | refine lg tb ?_); repeat ((first | refine G.condT rfl ?_ | refine G.condF rfl ?_ | refine sFa tb ?_ | refine sLd tb ?_ | refine sLa tb ?_ | refine sLen tb ?_ | refine sFd tb ?_ | refine sBd tb ?_ | refine sBa tb ?_); try (first | refine gl tb ?_ | refine gg tb ?_ | refine ll tb ?_ | refine lg tb ?_))
  first | refine G.condD rfl (fun hc => ?_) (fun hc => ?_) | refine G.condN rfl (fun hc => ?_) (fun hc => ?_) | refine G.cond rfl (fun hc => ?_) (fun hc => ?_)
  · have hlt : k < rs.length := by omega
    have hget : (rs.map relC2)[k]? = some (relC2 rs[k]) := by simp [hlt]
    have hmem : rs[k] ∈ rs := List.getElem_mem hlt
    have hdr : rs.drop k = rs[k] :: rs.drop (k + 1) := List.drop_eq_getElem_cons hlt
    generalize rs[k] = p at hget hmem hdr
    obtain ⟨hsr, hsz, hok⟩ := hsr p hmem
    rw [hdr, List.map_cons] at he
    try (first | refine gl tb ?_ | refine gg tb ?_ | refine ll tb ?_ | refine lg tb ?_); repeat ((first | refine G.condT rfl ?_ | refine G.condF rfl ?_ | refine sFa tb ?_ | refine sLd tb ?_ | refine sLa tb ?_ | refine sLen tb ?_ | refine sFd tb ?_ | refine sBd tb ?_ | refine sIa tb k ?_); try (first | refine gl tb ?_ | refine gg tb ?_ | refine ll tb ?_ | refine lg tb ?_))
    refine sAl tb ?_
    intro W2 hb2 hs2 hx2
    refine sSt tb ?_ (vs := relC2 p) (hv := rfl) (hb := hb2) (h1 := relC_one hsr)
    intro W3 hb3 hw3
    have hx3 : Ext W W3 := Below.wr hx2 hw3 (Nat.le_refl _)
    have hx03 := hx.trans hx3
    try (first | refine gl tb ?_ | refine gg tb ?_ | refine ll tb ?_ | refine lg tb ?_); repeat ((first | refine G.condT rfl ?_ | refine G.condF rfl ?_ | refine sFa tb ?_ | refine sLd tb ?_ | refine sLa tb ?_ | refine sLen tb ?_ | refine sFd tb ?_ | refine sBd tb ?_ | refine sBa tb ?_); try (first | refine gl tb ?_ | refine gg tb ?_ | refine ll tb ?_ | refine lg tb ?_))
    refine sCall c12 (right_okR p.2 p.1 W3 (hsr.to hx03) hsz (hT.to hx03)) ?_
    rintro _ W4 ⟨rfl, hx4⟩
    have hx04 := hx03.trans hx4
    have hb4 := hb3.to hx4
    try (first | refine gl tb ?_ | refine gg tb ?_ | refine ll tb ?_ | refine lg tb ?_); repeat ((first | refine G.condT rfl ?_ | refine G.condF rfl ?_ | refine sFa tb ?_ | refine sLd tb ?_ | refine sLa tb ?_ | refine sLen tb ?_ | refine sFd tb ?_ | refine sBd tb ?_ | refine sBa tb ?_); try (first | refine gl tb ?_ | refine gg tb ?_ | refine ll tb ?_ | refine lg tb ?_))
    first | refine G.condD rfl (fun hc => ?_) (fun hc => ?_) | refine G.condN rfl (fun hc => ?_) (fun hc => ?_) | refine G.cond rfl (fun hc => ?_) (fun hc => ?_)
    · have hr : ¬ rightR p.1 = true := by
        intro h; rw [h] at hc; cases hc
      rw [relF, if_neg hr] at he
      try (first | refine gl tb ?_ | refine gg tb ?_ | refine ll tb ?_ | refine lg tb ?_); repeat ((first | refine G.condT rfl ?_ | refine G.condF rfl ?_ | refine sFa tb ?_ | refine sLd tb ?_ | refine sLa tb ?_ | refine sLen tb ?_ | refine sFd tb ?_ | refine sBd tb ?_ | refine sBa tb ?_); try (first | refine gl tb ?_ | refine gg tb ?_ | refine ll tb ?_ | refine lg tb ?_))
      refine sAd tb ?_
      try (first | refine gl tb ?_ | refine gg tb ?_ | refine ll tb ?_ | refine lg tb ?_); repeat ((first | refine G.condT rfl ?_ | refine G.condF rfl ?_ | refine sFa tb ?_ | refine sLd tb ?_ | refine sLa tb ?_ | refine sLen tb ?_ | refine sFd tb ?_ | refine sBd tb ?_ | refine sBa tb ?_); try (first | refine gl tb ?_ | refine gg tb ?_ | refine ll tb ?_ | refine lg tb ?_))
      exact G.lp (x := (k, s, cur)) (k + 1, s, cur) (by repeat (first | exact Sub.nil _ | refine Sub.cons rfl ?_)) ⟨hx04, by simp only; omega, hs.to ((hx3.trans hx4)), hic, he⟩ (by simp only; omega)
    · have hr : rightR p.1 = true := by
        rcases h : rightR p.1 with _ | _
        · rw [h] at hc; cases hc
        · rfl
      rw [relF, if_pos hr] at he
      obtain ⟨hret, hinv⟩ := hok W4 s cur hr hx04 hic (hs.to (hx3.trans hx4)).sli
      try (first | refine gl tb ?_ | refine gg tb ?_ | refine ll tb ?_ | refine lg tb ?_); repeat ((first | refine G.condT rfl ?_ | refine G.condF rfl ?_ | refine sFa tb ?_ | refine sLd tb ?_ | refine sLa tb ?_ | refine sLen tb ?_ | refine sFd tb ?_ | refine sBd tb ?_ | refine sBa tb ?_); try (first | refine gl tb ?_ | refine gg tb ?_ | refine ll tb ?_ | refine lg tb ?_))
      refine sCall c26 (hret) ?_
      rintro _ W5 ⟨u, rfl, hu5, hx5⟩
      have hx05 := hx04.trans hx5
      try (first | refine gl tb ?_ | refine gg tb ?_ | refine ll tb ?_ | refine lg tb ?_); repeat ((first | refine G.condT rfl ?_ | refine G.condF rfl ?_ | refine sFa tb ?_ | refine sLd tb ?_ | refine sLa tb ?_ | refine sLen tb ?_ | refine sFd tb ?_ | refine sBd tb ?_ | refine sBa tb ?_); try (first | refine gl tb ?_ | refine gg tb ?_ | refine ll tb ?_ | refine lg tb ?_))
      first | refine G.condD rfl (fun hc => ?_) (fun hc => ?_) | refine G.condN rfl (fun hc => ?_) (fun hc => ?_) | refine G.cond rfl (fun hc => ?_) (fun hc => ?_)
      · have h2 : ¬ (F p.1 cur).2 = true := by
          intro h; rw [h] at hc; cases hc
        rw [if_neg h2] at he
        have h3 : (F p.1 cur).2 = false := by simpa using h2
        try (first | refine gl tb ?_ | refine gg tb ?_ | refine ll tb ?_ | refine lg tb ?_); repeat ((first | refine G.condT rfl ?_ | refine G.condF rfl ?_ | refine sFa tb ?_ | refine sLd tb ?_ | refine sLa tb ?_ | refine sLen tb ?_ | refine sFd tb ?_ | refine sBd tb ?_ | refine sBa tb ?_); try (first | refine gl tb ?_ | refine gg tb ?_ | refine ll tb ?_ | refine lg tb ?_))
        refine G.ret2 rfl rfl rfl rfl rfl ?_
        rw [he]
        exact ⟨_, by rw [h3], Owns.nil _ _ _ _, hx05⟩
      · have h2 : (F p.1 cur).2 = true := by
          rcases h : (F p.1 cur).2 with _ | _
          · rw [h] at hc; cases hc
          · rfl
        rw [if_pos h2] at he
        try (first | refine gl tb ?_ | refine gg tb ?_ | refine ll tb ?_ | refine lg tb ?_); repeat ((first | refine G.condT rfl ?_ | refine G.condF rfl ?_ | refine sFa tb ?_ | refine sLd tb ?_ | refine sLa tb ?_ | refine sLen tb ?_ | refine sFd tb ?_ | refine sBd tb ?_ | refine sBa tb ?_); try (first | refine gl tb ?_ | refine gg tb ?_ | refine ll tb ?_ | refine lg tb ?_))
        refine sAd tb ?_
        try (first | refine gl tb ?_ | refine gg tb ?_ | refine ll tb ?_ | refine lg tb ?_); repeat ((first | refine G.condT rfl ?_ | refine G.condF rfl ?_ | refine sFa tb ?_ | refine sLd tb ?_ | refine sLa tb ?_ | refine sLen tb ?_ | refine sFd tb ?_ | refine sBd tb ?_ | refine sBa tb ?_); try (first | refine gl tb ?_ | refine gg tb ?_ | refine ll tb ?_ | refine lg tb ?_))
        refine G.lp (x := (k, s, cur)) (k + 1, u, (F p.1 cur).1) ?_ ⟨hx05, by simp only; omega, hu5.lo (hs.to (hx3.trans hx4)) hx04.size hx5, hinv h2, he⟩ (by simp only; omega)
        rw [h2]
        exact (by repeat (first | exact Sub.nil _ | refine Sub.cons rfl ?_))
  · obtain rfl : k = rs.length := by omega
    rw [List.drop_length] at he
    try (first | refine gl tb ?_ | refine gg tb ?_ | refine ll tb ?_ | refine lg tb ?_); repeat ((first | refine G.condT rfl ?_ | refine G.condF rfl ?_ | refine sFa tb ?_ | refine sLd tb ?_ | refine sLa tb ?_ | refine sLen tb ?_ | refine sFd tb ?_ | refine sBd tb ?_ | refine sBa tb ?_); try (first | refine gl tb ?_ | refine gg tb ?_ | refine ll tb ?_ | refine lg tb ?_))
    refine G.ret2 rfl rfl rfl rfl rfl ?_
    rw [he]
    exact ⟨_, rfl, hs, hx⟩
end Go.Proofs.YtmkckngecjpklaaDoor
end
section
namespace Go.Sc
/-- how far a time is behind the last one of a target -/
def back (t o i : Int) : Int := (t - o) % i
theorem back_eq {t o i : Int} (hi : 0 < i) (h0 : 0 ≤ o) (h1 : o < i) : back t o i = if t % i - o < 0 then t % i - o + i else t % i - o := by
  have e1 := Int.emod_nonneg t (show i ≠ 0 by omega)
  have e2 := Int.emod_lt_of_pos t hi
  have e3 : (t - o) % i = (t % i - o) % i := by rw [Int.sub_emod t o i, Int.sub_emod (t % i) o i, Int.emod_emod]
  unfold back
  rw [e3]
  split
  · rw [← Int.add_emod_right, Int.emod_eq_of_lt (by omega) (by omega)]
  · rw [Int.emod_eq_of_lt (by omega) (by omega)]
theorem back_bd {t o i : Int} (hi : 0 < i) : 0 ≤ back t o i ∧ back t o i < i := ⟨Int.emod_nonneg _ (by omega), Int.emod_lt_of_pos _ hi⟩
/-- P12.4: when a target is due last in a time -/
def due (o i frm to_ : Int) : Option Int :=
  if i < 1 ∨ o < 0 ∨ i ≤ o ∨ to_ ≤ frm then none
  else if to_ < -9223372036854775808 + back to_ o i ∨ to_ - back to_ o i ≤ frm then none else some (to_ - back to_ o i)
end Go.Sc
end
section
open Go Go.Vg Go.RowKit Go.Proofs Go.Proofs.YtmkckngecjpklaaDoor
namespace Go.Proofs.YtmkckngecjpklaaDoor
set_option linter.unusedSimpArgs false

abbrev I64 (n : Int) : Prop := -9223372036854775808 ≤ n ∧ n ≤ 9223372036854775807
theorem tmod_or {t i : Int} (hi : 0 < i) : t.tmod i = t % i ∨ t.tmod i = t % i - i := by
  have e := Int.tmod_eq_emod (a := t) (b := i)
  split at e
  · left; simpa using e
  · right; omega
theorem tmod_eq {t i : Int} (hi : 0 < i) : (if t.tmod i < 0 then t.tmod i + i else t.tmod i) = t % i := by
  have h1 := Int.emod_nonneg t (show i ≠ 0 by omega)
  have h2 := Int.emod_lt_of_pos t hi
  have h3 := tmod_or (t := t) hi
  split <;> omega
theorem tmod_bd {t i : Int} (hi : 0 < i) : -i ≤ t.tmod i ∧ t.tmod i < i := by
  have h1 := Int.emod_nonneg t (show i ≠ 0 by omega)
  have h2 := Int.emod_lt_of_pos t hi
  have h3 := tmod_or (t := t) hi
  omega
theorem below_ok (t o i : Int) (w : World) (hi : 1 ≤ i) (h0 : 0 ≤ o) (h1 : o < i) (hI : i ≤ 9223372036854775807) :
    Ret Tryd.prog 21 ⟨[.int .i64 t, .int .i64 o, .int .i64 i]⟩ w fun r w' => r = .int .i64 (Sc.back t o i) ∧ w' = w := by
  have hbd := tmod_bd (t := t) (i := i) (by omega)
  have heq := tmod_eq (t := t) (i := i) (by omega)
  have hbk := Sc.back_eq (t := t) (o := o) (i := i) (by omega) h0 h1
  have he := Int.emod_nonneg t (show i ≠ 0 by omega)
  have he2 := Int.emod_lt_of_pos t (show 0 < i by omega)
  refine ret_of_G Tryd.func21 rfl Tryd.ntmps21 rfl ?_
  simp only [argEnv]
  try (first | refine gl tb ?_ | refine gg tb ?_ | refine ll tb ?_ | refine lg tb ?_); repeat ((first | refine G.condT rfl ?_ | refine G.condF rfl ?_ | refine sFa tb ?_ | refine sLd tb ?_ | refine sLa tb ?_ | refine sLen tb ?_ | refine sFd tb ?_ | refine sBd tb ?_ | refine sBa tb ?_); try (first | refine gl tb ?_ | refine gg tb ?_ | refine ll tb ?_ | refine lg tb ?_))
  refine sRem rfl ?_
  generalize t.tmod i = m at hbd heq
  generalize t % i = n at hbk he he2 heq
  try (first | refine gl tb ?_ | refine gg tb ?_ | refine ll tb ?_ | refine lg tb ?_); repeat ((first | refine G.condT rfl ?_ | refine G.condF rfl ?_ | refine sFa tb ?_ | refine sLd tb ?_ | refine sLa tb ?_ | refine sLen tb ?_ | refine sFd tb ?_ | refine sBd tb ?_ | refine sBa tb ?_); try (first | refine gl tb ?_ | refine gg tb ?_ | refine ll tb ?_ | refine lg tb ?_))
  refine (G.join (fun _ : Unit => [(1, none, .int .i64 o), (2, none, .int .i64 i), (7, none, .int .i64 n)]) (fun _ W => W = w) (fun _ W hW => ?_) ?_)
  · subst hW
    try (first | refine gl tb ?_ | refine gg tb ?_ | refine ll tb ?_ | refine lg tb ?_); repeat ((first | refine G.condT rfl ?_ | refine G.condF rfl ?_ | refine sFa tb ?_ | refine sLd tb ?_ | refine sLa tb ?_ | refine sLen tb ?_ | refine sFd tb ?_ | refine sBd tb ?_ | refine sBa tb ?_); try (first | refine gl tb ?_ | refine gg tb ?_ | refine ll tb ?_ | refine lg tb ?_))
    refine sAd tb (r := n - o) ?_
    try (first | refine gl tb ?_ | refine gg tb ?_ | refine ll tb ?_ | refine lg tb ?_); repeat ((first | refine G.condT rfl ?_ | refine G.condF rfl ?_ | refine sFa tb ?_ | refine sLd tb ?_ | refine sLa tb ?_ | refine sLen tb ?_ | refine sFd tb ?_ | refine sBd tb ?_ | refine sBa tb ?_); try (first | refine gl tb ?_ | refine gg tb ?_ | refine ll tb ?_ | refine lg tb ?_))
    first | refine G.condD rfl (fun hc => ?_) (fun hc => ?_) | refine G.condN rfl (fun hc => ?_) (fun hc => ?_) | refine G.cond rfl (fun hc => ?_) (fun hc => ?_)
    · try (first | refine gl tb ?_ | refine gg tb ?_ | refine ll tb ?_ | refine lg tb ?_); repeat ((first | refine G.condT rfl ?_ | refine G.condF rfl ?_ | refine sFa tb ?_ | refine sLd tb ?_ | refine sLa tb ?_ | refine sLen tb ?_ | refine sFd tb ?_ | refine sBd tb ?_ | refine sBa tb ?_); try (first | refine gl tb ?_ | refine gg tb ?_ | refine ll tb ?_ | refine lg tb ?_))
      refine sAd tb (r := n - o + i) ?_
      try (first | refine gl tb ?_ | refine gg tb ?_ | refine ll tb ?_ | refine lg tb ?_); repeat ((first | refine G.condT rfl ?_ | refine G.condF rfl ?_ | refine sFa tb ?_ | refine sLd tb ?_ | refine sLa tb ?_ | refine sLen tb ?_ | refine sFd tb ?_ | refine sBd tb ?_ | refine sBa tb ?_); try (first | refine gl tb ?_ | refine gg tb ?_ | refine ll tb ?_ | refine lg tb ?_))
      refine G.ret1 rfl rfl rfl rfl ?_
      exact ⟨by rw [hbk, if_pos (by omega)], rfl⟩
    · try (first | refine gl tb ?_ | refine gg tb ?_ | refine ll tb ?_ | refine lg tb ?_); repeat ((first | refine G.condT rfl ?_ | refine G.condF rfl ?_ | refine sFa tb ?_ | refine sLd tb ?_ | refine sLa tb ?_ | refine sLen tb ?_ | refine sFd tb ?_ | refine sBd tb ?_ | refine sBa tb ?_); try (first | refine gl tb ?_ | refine gg tb ?_ | refine ll tb ?_ | refine lg tb ?_))
      refine G.ret1 rfl rfl rfl rfl ?_
      exact ⟨by rw [hbk, if_neg (by omega)], rfl⟩
  · first | refine G.condD rfl (fun hc => ?_) (fun hc => ?_) | refine G.condN rfl (fun hc => ?_) (fun hc => ?_) | refine G.cond rfl (fun hc => ?_) (fun hc => ?_)
    · try (first | refine gl tb ?_ | refine gg tb ?_ | refine ll tb ?_ | refine lg tb ?_); repeat ((first | refine G.condT rfl ?_ | refine G.condF rfl ?_ | refine sFa tb ?_ | refine sLd tb ?_ | refine sLa tb ?_ | refine sLen tb ?_ | refine sFd tb ?_ | refine sBd tb ?_ | refine sBa tb ?_); try (first | refine gl tb ?_ | refine gg tb ?_ | refine ll tb ?_ | refine lg tb ?_))
      refine sAd tb (r := n) ?_ (hp := by rw [if_pos hc] at heq; show IntKind.i64.wrap _ = _; rw [wrap_i64 (by omega) (by omega)]; omega)
      try (first | refine gl tb ?_ | refine gg tb ?_ | refine ll tb ?_ | refine lg tb ?_); repeat ((first | refine G.condT rfl ?_ | refine G.condF rfl ?_ | refine sFa tb ?_ | refine sLd tb ?_ | refine sLa tb ?_ | refine sLen tb ?_ | refine sFd tb ?_ | refine sBd tb ?_ | refine sBa tb ?_); try (first | refine gl tb ?_ | refine gg tb ?_ | refine ll tb ?_ | refine lg tb ?_))
      exact G.met () (by repeat (first | exact Sub.nil _ | refine Sub.cons rfl ?_)) rfl
    · rw [if_neg hc] at heq
      subst heq
      try (first | refine gl tb ?_ | refine gg tb ?_ | refine ll tb ?_ | refine lg tb ?_); repeat ((first | refine G.condT rfl ?_ | refine G.condF rfl ?_ | refine sFa tb ?_ | refine sLd tb ?_ | refine sLa tb ?_ | refine sLen tb ?_ | refine sFd tb ?_ | refine sBd tb ?_ | refine sBa tb ?_); try (first | refine gl tb ?_ | refine gg tb ?_ | refine ll tb ?_ | refine lg tb ?_))
      exact G.met () (by repeat (first | exact Sub.nil _ | refine Sub.cons rfl ?_)) rfl
/-- what is told of a time -/
def dueV (d : Option Int) : Value := .tuple ⟨[.int .i64 (d.getD 0), .bool d.isSome]⟩
/-- a target's cells -/
def tgC (a b c : Value) (o : Int) : List Value := [a, b, c, .int .i64 o]
set_option maxHeartbeats 1000000 in
theorem due_ok (a b c : Value) (o i frm to_ : Int) (w : World) (hi : I64 i) (ht : I64 to_) (hf : I64 frm) :
    Ret Tryd.prog 7 ⟨[.agg ⟨tgC a b c o⟩, .int .i64 i, .int .i64 frm, .int .i64 to_]⟩ w fun r w' => r = dueV (Sc.due o i frm to_) ∧ Ext w w' := by
  obtain ⟨hi1, hi2⟩ := hi
  obtain ⟨ht1, ht2⟩ := ht
  refine ret_of_G Tryd.func7 rfl Tryd.ntmps7 rfl ?_
  simp only [argEnv]
  try (first | refine gl tb ?_ | refine gg tb ?_ | refine ll tb ?_ | refine lg tb ?_); repeat ((first | refine G.condT rfl ?_ | refine G.condF rfl ?_ | refine sFa tb ?_ | refine sLd tb ?_ | refine sLa tb ?_ | refine sLen tb ?_ | refine sFd tb ?_ | refine sBd tb ?_ | refine sBa tb ?_); try (first | refine gl tb ?_ | refine gg tb ?_ | refine ll tb ?_ | refine lg tb ?_))
  refine sBox (us := tgC a b c o) (fun W1 hb1 hs1 hx1 => ?_)
  try (first | refine gl tb ?_ | refine gg tb ?_ | refine ll tb ?_ | refine lg tb ?_); repeat ((first | refine G.condT rfl ?_ | refine G.condF rfl ?_ | refine sFa tb ?_ | refine sLd tb ?_ | refine sLa tb ?_ | refine sLen tb ?_ | refine sFd tb ?_ | refine sBd tb ?_ | refine sBa tb ?_); try (first | refine gl tb ?_ | refine gg tb ?_ | refine ll tb ?_ | refine lg tb ?_))
  first | refine G.condD rfl (fun hc => ?_) (fun hc => ?_) | refine G.condN rfl (fun hc => ?_) (fun hc => ?_) | refine G.cond rfl (fun hc => ?_) (fun hc => ?_)
  · have hn : Sc.due o i frm to_ = none := by
      unfold Sc.due
      simp only [Bool.or_eq_true, decide_eq_true_eq] at hc
      rw [if_pos (by omega)]
    try (first | refine gl tb ?_ | refine gg tb ?_ | refine ll tb ?_ | refine lg tb ?_); repeat ((first | refine G.condT rfl ?_ | refine G.condF rfl ?_ | refine sFa tb ?_ | refine sLd tb ?_ | refine sLa tb ?_ | refine sLen tb ?_ | refine sFd tb ?_ | refine sBd tb ?_ | refine sBa tb ?_); try (first | refine gl tb ?_ | refine gg tb ?_ | refine ll tb ?_ | refine lg tb ?_))
    refine G.ret2 rfl rfl rfl rfl rfl ?_
    exact ⟨by rw [hn]; rfl, hx1⟩
  simp only [Bool.or_eq_false_iff, decide_eq_false_iff_not] at hc
  obtain ⟨⟨⟨c1, c2⟩, c3⟩, c4⟩ := hc
  have hbd := Sc.back_bd (t := to_) (o := o) (i := i) (by omega)
  have hdue : Sc.due o i frm to_ = if to_ < -9223372036854775808 + Sc.back to_ o i ∨ to_ - Sc.back to_ o i ≤ frm then none else some (to_ - Sc.back to_ o i) := by
    unfold Sc.due
    rw [if_neg (by omega)]
  try (first | refine gl tb ?_ | refine gg tb ?_ | refine ll tb ?_ | refine lg tb ?_); repeat ((first | refine G.condT rfl ?_ | refine G.condF rfl ?_ | refine sFa tb ?_ | refine sLd tb ?_ | refine sLa tb ?_ | refine sLen tb ?_ | refine sFd tb ?_ | refine sBd tb ?_ | refine sBa tb ?_); try (first | refine gl tb ?_ | refine gg tb ?_ | refine ll tb ?_ | refine lg tb ?_))
  refine sCall c21 (below_ok to_ o i W1 (by omega) (by omega) (by omega) hi2) ?_
  rintro _ W2 ⟨rfl, rfl⟩
  generalize Sc.back to_ o i = m at hbd hdue
  try (first | refine gl tb ?_ | refine gg tb ?_ | refine ll tb ?_ | refine lg tb ?_); repeat ((first | refine G.condT rfl ?_ | refine G.condF rfl ?_ | refine sFa tb ?_ | refine sLd tb ?_ | refine sLa tb ?_ | refine sLen tb ?_ | refine sFd tb ?_ | refine sBd tb ?_ | refine sBa tb ?_); try (first | refine gl tb ?_ | refine gg tb ?_ | refine ll tb ?_ | refine lg tb ?_))
  refine sAd tb (r := -9223372036854775808 + m) ?_
  try (first | refine gl tb ?_ | refine gg tb ?_ | refine ll tb ?_ | refine lg tb ?_); repeat ((first | refine G.condT rfl ?_ | refine G.condF rfl ?_ | refine sFa tb ?_ | refine sLd tb ?_ | refine sLa tb ?_ | refine sLen tb ?_ | refine sFd tb ?_ | refine sBd tb ?_ | refine sBa tb ?_); try (first | refine gl tb ?_ | refine gg tb ?_ | refine ll tb ?_ | refine lg tb ?_))
  refine sAd tb (r := IntKind.i64.wrap (to_ - m)) ?_ (hp := rfl)
  try (first | refine gl tb ?_ | refine gg tb ?_ | refine ll tb ?_ | refine lg tb ?_); repeat ((first | refine G.condT rfl ?_ | refine G.condF rfl ?_ | refine sFa tb ?_ | refine sLd tb ?_ | refine sLa tb ?_ | refine sLen tb ?_ | refine sFd tb ?_ | refine sBd tb ?_ | refine sBa tb ?_); try (first | refine gl tb ?_ | refine gg tb ?_ | refine ll tb ?_ | refine lg tb ?_))
  first | refine G.condD rfl (fun hc => ?_) (fun hc => ?_) | refine G.condN rfl (fun hc => ?_) (fun hc => ?_) | refine G.cond rfl (fun hc => ?_) (fun hc => ?_)
  · have hn : Sc.due o i frm to_ = none := by
      rw [hdue]
      simp only [Bool.or_eq_true, decide_eq_true_eq] at hc
      rw [if_pos]
      rcases hc with h | h
      · exact .inl h
      · by_cases h2 : to_ < -9223372036854775808 + m
        · exact .inl h2
        · rw [wrap_i64 (by omega) (by omega)] at h
          exact .inr h
    try (first | refine gl tb ?_ | refine gg tb ?_ | refine ll tb ?_ | refine lg tb ?_); repeat ((first | refine G.condT rfl ?_ | refine G.condF rfl ?_ | refine sFa tb ?_ | refine sLd tb ?_ | refine sLa tb ?_ | refine sLen tb ?_ | refine sFd tb ?_ | refine sBd tb ?_ | refine sBa tb ?_); try (first | refine gl tb ?_ | refine gg tb ?_ | refine ll tb ?_ | refine lg tb ?_))
    refine G.ret2 rfl rfl rfl rfl rfl ?_
    exact ⟨by rw [hn]; rfl, hx1⟩
  · simp only [Bool.or_eq_false_iff, decide_eq_false_iff_not] at hc
    have hw : IntKind.i64.wrap (to_ - m) = to_ - m := wrap_i64 (by omega) (by omega)
    rw [hw] at hc
    rw [hw]
    try (first | refine gl tb ?_ | refine gg tb ?_ | refine ll tb ?_ | refine lg tb ?_); repeat ((first | refine G.condT rfl ?_ | refine G.condF rfl ?_ | refine sFa tb ?_ | refine sLd tb ?_ | refine sLa tb ?_ | refine sLen tb ?_ | refine sFd tb ?_ | refine sBd tb ?_ | refine sBa tb ?_); try (first | refine gl tb ?_ | refine gg tb ?_ | refine ll tb ?_ | refine lg tb ?_))
    refine sAd tb (r := to_ - m) ?_
    try (first | refine gl tb ?_ | refine gg tb ?_ | refine ll tb ?_ | refine lg tb ?_); repeat ((first | refine G.condT rfl ?_ | refine G.condF rfl ?_ | refine sFa tb ?_ | refine sLd tb ?_ | refine sLa tb ?_ | refine sLen tb ?_ | refine sFd tb ?_ | refine sBd tb ?_ | refine sBa tb ?_); try (first | refine gl tb ?_ | refine gg tb ?_ | refine ll tb ?_ | refine lg tb ?_))
    refine G.ret2 rfl rfl rfl rfl rfl ?_
    exact ⟨by rw [hdue, if_neg (by omega)]; rfl, hx1⟩
end Go.Proofs.YtmkckngecjpklaaDoor
end
section
open Go Go.Vg Go.RowKit Go.Proofs Go.Proofs.YtmkckngecjpklaaDoor
namespace Go.Proofs.YtmkckngecjpklaaDoor.Lab
set_option linter.unusedSimpArgs false

def u8N (n b0 b1 b2 b3 : Nat) : Nat :=
  if b0 < 128 then 1
  else if b0 / 32 = 6 then (if 1 < n ∧ b1 / 64 = 2 ∧ 128 ≤ b0 % 32 * 64 + b1 % 64 then 2 else 0)
  else if b0 / 16 = 14 then (if 2 < n ∧ b1 / 64 = 2 ∧ b2 / 64 = 2 ∧ 2048 ≤ b0 % 16 * 4096 + b1 % 64 * 64 + b2 % 64 ∧ ¬ (55296 ≤ b0 % 16 * 4096 + b1 % 64 * 64 + b2 % 64 ∧ b0 % 16 * 4096 + b1 % 64 * 64 + b2 % 64 ≤ 57343) then 3 else 0)
  else if b0 / 8 = 30 then (if 3 < n ∧ b1 / 64 = 2 ∧ b2 / 64 = 2 ∧ b3 / 64 = 2 ∧ 65536 ≤ b0 % 8 * 262144 + b1 % 64 * 4096 + b2 % 64 * 64 + b3 % 64 ∧ b0 % 8 * 262144 + b1 % 64 * 4096 + b2 % 64 * 64 + b3 % 64 ≤ 1114111 then 4 else 0)
  else 0

theorem u8N_decode (n b0 b1 b2 b3 : Nat) : (u8N n b0 b1 b2 b3 = 0 ∧ Lib.decodeN n b0 b1 b2 b3 = (65533, 1)) ∨ (u8N n b0 b1 b2 b3 ≠ 0 ∧ (Lib.decodeN n b0 b1 b2 b3).2 = u8N n b0 b1 b2 b3 ∧ ¬ ((Lib.decodeN n b0 b1 b2 b3).1 = 65533 ∧ (Lib.decodeN n b0 b1 b2 b3).2 = 1)) := by
  unfold u8N Lib.decodeN
  repeat' split
  all_goals first | (exfalso; omega) | (left; exact ⟨rfl, rfl⟩) | (right; refine ⟨by omega, rfl, ?_⟩; simp only; omega)

theorem byteN (s : List UInt8) (i : Nat) : byteI s i = (((s.getD i 0).toNat : Nat) : Int) := rfl
set_option maxHeartbeats 1000000 in
theorem u8len_N (s : List UInt8) (i : Nat) (hi : i < s.length) : u8len s i = u8N (s.length - i) (s.getD i 0).toNat (s.getD (i + 1) 0).toNat (s.getD (i + 2) 0).toNat (s.getD (i + 3) 0).toNat := by
  have h0 := (s.getD i 0).toNat_lt
  have h1 := (s.getD (i + 1) 0).toNat_lt
  have h2 := (s.getD (i + 2) 0).toNat_lt
  have h3 := (s.getD (i + 3) 0).toNat_lt
  unfold u8len
  rw [byteN]
  have e1 := byteN s (i + 1)
  have e2 := byteN s (i + 2)
  have e3 := byteN s (i + 3)
  generalize (s.getD i 0).toNat = b0 at h0 ⊢
  generalize (s.getD (i + 1) 0).toNat = b1 at h1 e1 ⊢
  generalize (s.getD (i + 2) 0).toNat = b2 at h2 e2 ⊢
  generalize (s.getD (i + 3) 0).toNat = b3 at h3 e3 ⊢
  obtain ⟨n, hn⟩ : ∃ n, n = s.length - i := ⟨_, rfl⟩
  rw [← hn]
  unfold lead
  by_cases c4 : 240 ≤ b0 ∧ b0 < 248
  · rw [if_pos (by omega)]
    simp only [u8n, show (4 - 1 : Nat) = 3 from rfl, contTo, Nat.zero_add, e1, e2, e3]
    unfold u8N badRune
    rw [if_neg (by omega : ¬ b0 < 128), if_neg (by omega : ¬ b0 / 32 = 6), if_neg (by omega : ¬ b0 / 16 = 14), if_pos (by omega : b0 / 8 = 30)]
    by_cases hl : s.length < i + 4
    · rw [if_pos hl, if_neg (by omega)]
    · rw [if_neg hl]
      by_cases k1 : (b1 : Int) < 128 ∨ 192 ≤ (b1 : Int)
      · simp only [k1, if_true]; rw [if_neg (by omega)]
      · simp only [k1, if_false]
        by_cases k2 : (b2 : Int) < 128 ∨ 192 ≤ (b2 : Int)
        · simp only [k2, if_true]; rw [if_neg (by omega)]
        · simp only [k2, if_false]
          by_cases k3 : (b3 : Int) < 128 ∨ 192 ≤ (b3 : Int)
          · simp only [k3, if_true]; rw [if_neg (by omega)]
          · simp only [k3, if_false, Bool.or_eq_true, Bool.and_eq_true, decide_eq_true_eq]
            split <;> split <;> first | rfl | (exfalso; omega)
  · rw [if_neg (by omega)]
    by_cases c3 : 224 ≤ b0 ∧ b0 < 240
    · rw [if_pos (by omega)]
      simp only [u8n, show (3 - 1 : Nat) = 2 from rfl, contTo, Nat.zero_add, e1, e2]
      unfold u8N badRune
      rw [if_neg (by omega : ¬ b0 < 128), if_neg (by omega : ¬ b0 / 32 = 6), if_pos (by omega : b0 / 16 = 14)]
      by_cases hl : s.length < i + 3
      · rw [if_pos hl, if_neg (by omega)]
      · rw [if_neg hl]
        by_cases k1 : (b1 : Int) < 128 ∨ 192 ≤ (b1 : Int)
        · simp only [k1, if_true]; rw [if_neg (by omega)]
        · simp only [k1, if_false]
          by_cases k2 : (b2 : Int) < 128 ∨ 192 ≤ (b2 : Int)
          · simp only [k2, if_true]; rw [if_neg (by omega)]
          · simp only [k2, if_false, Bool.or_eq_true, Bool.and_eq_true, decide_eq_true_eq]
            split <;> split <;> first | rfl | (exfalso; omega)
    · rw [if_neg (by omega)]
      by_cases c2 : 192 ≤ b0 ∧ b0 < 224
      · rw [if_pos (by omega)]
        simp only [u8n, show (2 - 1 : Nat) = 1 from rfl, contTo, Nat.zero_add, e1]
        unfold u8N badRune
        rw [if_neg (by omega : ¬ b0 < 128), if_pos (by omega : b0 / 32 = 6)]
        by_cases hl : s.length < i + 2
        · rw [if_pos hl, if_neg (by omega)]
        · rw [if_neg hl]
          by_cases k1 : (b1 : Int) < 128 ∨ 192 ≤ (b1 : Int)
          · simp only [k1, if_true]; rw [if_neg (by omega)]
          · simp only [k1, if_false, Bool.or_eq_true, Bool.and_eq_true, decide_eq_true_eq]
            split <;> split <;> first | rfl | (exfalso; omega)
      · rw [if_neg (by omega)]
        by_cases c1 : 128 ≤ b0
        · rw [if_pos (by omega)]
          unfold u8N
          rw [if_neg (by omega : ¬ b0 < 128), if_neg (by omega : ¬ b0 / 32 = 6), if_neg (by omega : ¬ b0 / 16 = 14), if_neg (by omega : ¬ b0 / 8 = 30)]
        · rw [if_neg (by omega)]
          simp only [u8n, show (1 - 1 : Nat) = 0 from rfl, contTo]
          unfold u8N badRune
          rw [if_pos (by omega : b0 < 128), if_neg (by omega), if_neg (by simp; omega)]

theorem getD_drop (s : List UInt8) (i k : Nat) : (s.drop i).getD k 0 = s.getD (i + k) 0 := by simp [List.getD]
theorem validGo_D (s : List UInt8) : ∀ (m i : Nat), s.length - i = m → i ≤ s.length → validGo s (s.length - i) i = Lib.validD (s.drop i) := by
  intro m
  induction m using Nat.strongRecOn with
  | _ m ih =>
    intro i hm hi
    by_cases he : i = s.length
    · subst he
      rw [List.drop_length, Lib.validD_nil, validGo_end _ _ _ (Nat.le_refl _)]
    · have hlt : i < s.length := by omega
      have hne : s.drop i ≠ [] := by intro h; rw [List.drop_eq_nil_iff] at h; omega
      rw [Lib.validD_step _ hne, Lib.decodeL_N, getD_drop, getD_drop, getD_drop, getD_drop, List.length_drop, Nat.add_zero]
      have hN := u8len_N s i hlt
      rcases u8N_decode (s.length - i) (s.getD i 0).toNat (s.getD (i + 1) 0).toNat (s.getD (i + 2) 0).toNat (s.getD (i + 3) 0).toNat with ⟨h1, h2⟩ | ⟨h1, h2, h3⟩
      · rw [h1] at hN
        rw [h2, validGo_no hlt hN]; simp
      · rw [← hN] at h1 h2
        have hle := u8len_le s i hi
        rw [if_neg h3, h2, validGo_step hlt h1, ih (s.length - (i + u8len s i)) (by omega) (i + u8len s i) rfl hle, List.drop_drop]
theorem validU_D (s : List UInt8) : validU s = Lib.validD s := by
  have := validGo_D s s.length 0 (by omega) (by omega)
  simpa [validU] using this
end Go.Proofs.YtmkckngecjpklaaDoor.Lab
end
section
open Go Go.Vg Go.RowKit Go.Proofs Go.Proofs.YtmkckngecjpklaaDoor
namespace Go.Proofs.YtmkckngecjpklaaDoor
set_option linter.unusedSimpArgs false
namespace Lab
def keptL (ls : List Lab) : List Lab := ls.filter fun x => !decide (x.2 = [])
def dupAt (d : List Lab) (i : Nat) : Prop := 1 ≤ i ∧ i < d.length ∧ (labAt d i).1 = (labAt d (i - 1)).1
theorem keptL_snoc (ls : List Lab) (x : Lab) : keptL (ls ++ [x]) = if x.2 = [] then keptL ls else keptL ls ++ [x] := by
  by_cases h : x.2 = [] <;> simp [keptL, h]
theorem okB_fair (x : Lab) : okB x = fairB x := by
  unfold okB fairB rightV
  rw [validU_D]
  cases namedB false x.1 <;> cases Lib.validD x.2 <;> by_cases h : (x.2.length : Int) ≤ 1024 <;> simp [h] <;> omega
theorem putL_perm (l : List Lab) (x : Lab) : (putL l x).Perm (l ++ [x]) := by
  unfold putL
  have h := List.takeWhile_append_dropWhile (p := fun y => Op.bytesLess y.1 x.1) (l := l)
  have h1 : (x :: l.dropWhile fun y => Op.bytesLess y.1 x.1).Perm ((l.dropWhile fun y => Op.bytesLess y.1 x.1) ++ [x]) := (List.perm_append_singleton x _).symm
  refine (List.Perm.append_left _ h1).trans ?_
  rw [← List.append_assoc, h]
theorem foldN_perm (ls : List Lab) : (foldN ls).1.Perm (keptL ls) := by
  suffices h : ∀ n, ∀ ls : List Lab, ls.length = n → (foldN ls).1.Perm (keptL ls) from h _ ls rfl
  intro n
  induction n with
  | zero => intro ls h; rw [List.eq_nil_of_length_eq_zero h]; exact List.Perm.refl _
  | succ n ih =>
    intro ls h
    have hne : ls ≠ [] := by intro e; subst e; cases h
    obtain ⟨r, x, rfl⟩ : ∃ r x, ls = r ++ [x] := ⟨ls.dropLast, ls.getLast hne, (List.dropLast_concat_getLast hne).symm⟩
    have hr := ih r (by simpa using h)
    rw [foldN_snoc, keptL_snoc]
    unfold stepN
    by_cases hx : x.2 = []
    · rw [if_pos hx, if_pos hx]; exact hr
    · rw [if_neg hx, if_neg hx]
      exact (putL_perm _ x).trans (List.Perm.append_right _ hr)
theorem putL_sorted {l : List Lab} {x : Lab} (h : sortedL l) : sortedL (putL l x) := by
  have hd := dw_sorted (x := x) h
  have ht := tw_all (l := l) (x := x)
  unfold sortedL putL at *
  have hs := List.takeWhile_append_dropWhile (p := fun y => Op.bytesLess y.1 x.1) (l := l)
  rw [← hs, List.pairwise_append] at h
  rw [List.pairwise_append]
  refine ⟨h.1, List.pairwise_cons.2 ⟨hd, h.2.1⟩, ?_⟩
  intro a ha b hb
  rcases List.mem_cons.1 hb with rfl | hb
  · exact bl_asymm (ht a ha)
  · exact h.2.2 a ha b hb
theorem foldN_sorted (ls : List Lab) : sortedL (foldN ls).1 := by
  suffices h : ∀ (l : List Lab) (s : List Lab × Bool), sortedL s.1 → sortedL (l.foldl stepN s).1 from h ls ([], false) List.Pairwise.nil
  intro l
  induction l with
  | nil => intro s h; exact h
  | cons a r ih =>
    intro s h
    refine ih _ ?_
    unfold stepN
    split
    · exact h
    · exact putL_sorted h
theorem hasL_mem (l : List Lab) (n : List UInt8) : hasL l n = true ↔ n ∈ l.map (·.1) := by
  simp only [hasL, List.any_eq_true, decide_eq_true_eq, List.mem_map]
theorem nodup_snoc {α : Type} {l : List α} {x : α} : (l ++ [x]).Nodup ↔ l.Nodup ∧ x ∉ l := by
  rw [List.nodup_append]
  constructor
  · rintro ⟨h1, _, h3⟩
    exact ⟨h1, fun hx => h3 x hx x (by simp) rfl⟩
  · rintro ⟨h1, h2⟩
    refine ⟨h1, by simp, ?_⟩
    intro a ha b hb
    simp only [List.mem_cons, List.not_mem_nil, or_false] at hb
    subst hb
    rintro rfl; exact h2 ha
theorem foldN_twice (ls : List Lab) : (foldN ls).2 = true ↔ ¬ ((keptL ls).map (·.1)).Nodup := by
  suffices h : ∀ n, ∀ ls : List Lab, ls.length = n → ((foldN ls).2 = true ↔ ¬ ((keptL ls).map (·.1)).Nodup) from h _ ls rfl
  intro n
  induction n with
  | zero => intro ls h; rw [List.eq_nil_of_length_eq_zero h]; simp [foldN, keptL]
  | succ n ih =>
    intro ls h
    have hne : ls ≠ [] := by intro e; subst e; cases h
    obtain ⟨r, x, rfl⟩ : ∃ r x, ls = r ++ [x] := ⟨ls.dropLast, ls.getLast hne, (List.dropLast_concat_getLast hne).symm⟩
    have hr := ih r (by simpa using h)
    rw [foldN_snoc, keptL_snoc]
    unfold stepN
    by_cases hx : x.2 = []
    · rw [if_pos hx, if_pos hx]; exact hr
    · rw [if_neg hx, if_neg hx]
      simp only [Bool.or_eq_true, hr, hasL_mem, List.map_append, List.map_cons, List.map_nil]
      rw [nodup_snoc]
      have hp : x.1 ∈ (foldN r).1.map (·.1) ↔ x.1 ∈ (keptL r).map (·.1) := ((foldN_perm r).map _).mem_iff
      rw [hp]
      constructor
      · rintro (h1 | h1) ⟨h2, h3⟩
        · exact h1 h2
        · exact h3 h1
      · intro h1
        by_cases h2 : ((keptL r).map (·.1)).Nodup
        · by_cases h3 : x.1 ∈ (keptL r).map (·.1)
          · exact .inr h3
          · exact absurd ⟨h2, h3⟩ h1
        · exact .inl h2
/-- the next one is there, and another name -/
theorem dup_iff {d : List Lab} (h : sortedL d) : (∃ i, dupAt d i) ↔ ¬ (d.map (·.1)).Nodup := by
  have at_ : ∀ i (hi : i < d.length), labAt d i = d[i] := fun i hi => by simp [labAt, List.getD, hi]
  constructor
  · rintro ⟨i, h1, h2, h3⟩ hn
    rw [at_ i h2, at_ (i - 1) (by omega)] at h3
    have := List.pairwise_iff_getElem.1 hn (i - 1) i (by simp; omega) (by simpa using h2) (by omega)
    simp only [List.getElem_map] at this
    exact this h3.symm
  · intro hn
    apply Classical.byContradiction
    intro hno
    refine hn ?_
    have adj : ∀ i (hi : i + 1 < d.length), Op.bytesLess d[i].1 d[i + 1].1 = true := by
      intro i hi
      have h1 := List.pairwise_iff_getElem.1 h i (i + 1) (by omega) hi (by omega)
      rcases bl_not h1 with e | e
      · exfalso
        refine hno ⟨i + 1, by omega, hi, ?_⟩
        rw [at_ (i + 1) hi, Nat.add_sub_cancel, at_ i (by omega)]; exact e.symm
      · exact e
    have lt : ∀ k i (hi : i + (k + 1) < d.length), Op.bytesLess d[i].1 d[i + (k + 1)].1 = true := by
      intro k
      induction k with
      | zero => intro i hi; exact adj i hi
      | succ k ih =>
        intro i hi
        exact bl_trans (ih i (by omega)) (adj (i + (k + 1)) hi)
    unfold List.Nodup
    rw [List.pairwise_iff_getElem]
    intro i j hi hj hij e
    simp only [List.length_map] at hi hj
    simp only [List.getElem_map] at e
    have := lt (j - i - 1) i (by omega)
    have ej : i + (j - i - 1 + 1) = j := by omega
    simp only [ej] at this
    rw [e, bl_irrefl] at this; cases this
def okAt (ls : List Lab) (i : Nat) : Bool := !(!fairB (labAt ls i) || decide ((labAt ls i).2 = []) || decide ((0 : Int) < i) && !Op.bytesLess (labAt ls (i - 1)).1 (labAt ls i).1)
def rightTo (ls : List Lab) (n : Nat) : Prop := ∀ i, i < n → okAt ls i = true
instance (ls : List Lab) (n : Nat) : Decidable (rightTo ls n) := by unfold rightTo; infer_instance
def rightB (ls : List Lab) : Bool := decide (rightTo ls ls.length) && decide ((ls.length : Int) ≤ 64)
theorem labAt_mem {ls : List Lab} {k : Nat} (h : k < ls.length) : labAt ls k ∈ ls := by
  simp only [labAt, List.getD, List.getElem?_eq_getElem h, Option.getD_some]; exact List.getElem_mem h
theorem labAt_eq {ls : List Lab} {k : Nat} (h : k < ls.length) : labAt ls k = ls[k] := by simp [labAt, List.getD, h]
theorem newR_right {ls out : List Lab} (h : newR ls = (0, out)) : rightB out = true := by
  unfold newR at h
  split at h
  · rename_i hall
    split at h
    · cases h
    · rename_i htw
      split at h
      · cases h
      · rename_i hlen
        simp only [Prod.mk.injEq, true_and] at h
        subst h
        have hso := foldN_sorted ls
        have hp := foldN_perm ls
        have hnd : ((foldN ls).1.map (·.1)).Nodup := by
          apply Classical.byContradiction
          intro hc
          exact htw ((foldN_twice ls).2 (fun h2 => hc ((hp.map (·.1)).nodup_iff.2 h2)))
        have hno := dup_iff hso
        have hmem : ∀ x ∈ (foldN ls).1, fairB x = true ∧ x.2 ≠ [] := by
          intro x hx
          have hk := hp.mem_iff.1 hx
          simp only [keptL, List.mem_filter, Bool.not_eq_true', decide_eq_false_iff_not] at hk
          exact ⟨List.all_eq_true.1 hall x hk.1, hk.2⟩
        have hr : rightTo (foldN ls).1 (foldN ls).1.length := by
          intro i hi
          have hm := hmem _ (labAt_mem hi)
          unfold okAt
          by_cases h0 : i = 0
          · subst h0; simp [hm.1, hm.2]
          · have hbl : Op.bytesLess (labAt (foldN ls).1 (i - 1)).1 (labAt (foldN ls).1 i).1 = true := by
              rw [labAt_eq hi, labAt_eq (show i - 1 < _ by omega)]
              have h1 := List.pairwise_iff_getElem.1 hso (i - 1) i (by omega) hi (by omega)
              rcases bl_not h1 with e | e
              · exfalso
                refine hno.1 ⟨i, by omega, hi, ?_⟩ hnd
                rw [labAt_eq hi, labAt_eq (show i - 1 < _ by omega)]; exact e.symm
              · exact e
            simp [hm.1, hm.2, hbl]
        simp [rightB, hr]; omega
  · cases h
/-- what a set's labels are like -/
theorem right_fair {ls : List Lab} (h : rightB ls = true) : (∀ x ∈ ls, fairB x = true ∧ x.2 ≠ []) ∧ ls.length ≤ 64 := by
  simp only [rightB, Bool.and_eq_true, decide_eq_true_eq] at h
  refine ⟨fun x hx => ?_, by omega⟩
  obtain ⟨i, hi, rfl⟩ := List.getElem_of_mem hx
  have := h.1 i hi
  unfold okAt at this
  rw [labAt_eq hi] at this
  simp only [Bool.not_eq_true', Bool.or_eq_false_iff, Bool.not_eq_false', decide_eq_false_iff_not] at this
  exact ⟨this.1.1, this.1.2⟩
theorem fair_len {x : Lab} (h : fairB x = true) : x.1.length ≤ 1024 ∧ x.2.length ≤ 1024 := by
  unfold fairB rightV namedB at h
  simp only [Bool.and_eq_true, decide_eq_true_eq] at h
  omega
/-- strictly rising names -/
def riseL (ls : List Lab) : Prop := ls.Pairwise fun x y => Op.bytesLess x.1 y.1 = true
theorem rise_sorted {ls : List Lab} (h : riseL ls) : sortedL ls := List.Pairwise.imp (fun h => bl_asymm h) h
theorem right_rise {ls : List Lab} (h : rightB ls = true) : riseL ls := by
  have hs : ∀ i, 0 < i → i < ls.length → Op.bytesLess (labAt ls (i - 1)).1 (labAt ls i).1 = true := by
    intro i h0 hi
    simp only [rightB, Bool.and_eq_true, decide_eq_true_eq] at h
    have h2 : okAt ls i = true := by
      first | exact h.1 i hi | exact h.2 i hi
    unfold okAt at h2
    have h3 : ¬ i = 0 := by omega
    have h4 : (fairB (labAt ls i) = true ∧ ¬(labAt ls i).snd = []) ∧ Op.bytesLess (labAt ls (i - 1)).fst (labAt ls i).fst = true := by simpa [h3] using h2
    exact h4.2
  unfold riseL
  rw [List.pairwise_iff_getElem]
  intro i j hi hj hij
  have key : ∀ d i, ∀ (_ : i < ls.length) (h2 : i + d + 1 < ls.length), Op.bytesLess (labAt ls i).1 (labAt ls (i + d + 1)).1 = true := by
    intro d
    induction d with
    | zero => intro i _ h2; exact hs (i + 1) (by omega) h2
    | succ d ih =>
      intro i h1 h2
      exact bl_trans (ih i h1 (by omega)) (hs (i + (d + 1) + 1) (by omega) h2)
  have := key (j - i - 1) i hi (by omega)
  rw [show i + (j - i - 1) + 1 = j by omega, labAt_eq hi, labAt_eq hj] at this
  exact this
end Lab
end Go.Proofs.YtmkckngecjpklaaDoor
end
section
open Go Go.Vg Go.RowKit Go.Proofs Go.Proofs.YtmkckngecjpklaaDoor
namespace Go.Proofs.YtmkckngecjpklaaDoor
set_option linter.unusedSimpArgs false
namespace Lab
def clipL (x : Lab) : Lab := (x.1, x.2.take 60)
def setS (ls : List Lab) : List Lab := ((ls.take 10).map clipL).foldl setStep []
set_option maxHeartbeats 1000000 in
theorem setS_ok (v : Value) (ls : List Lab) (w : World) (hv : Labs w v ls) (hz : ∀ x ∈ ls, LabSz x) :
    Ret Tryd.prog 10 ⟨[v]⟩ w fun r w' => LO w' w.heap.size r (setS ls) ∧ Ext w w' := by
  have hbd := Labs.bound hv
  refine ret_of_G Tryd.func10 rfl Tryd.ntmps10 rfl ?_
  simp only [argEnv]
  try (first | refine gl tb ?_ | refine gg tb ?_ | refine ll tb ?_ | refine lg tb ?_); repeat ((first | refine G.condT rfl ?_ | refine G.condF rfl ?_ | refine sFa tb ?_ | refine sLd tb ?_ | refine sLa tb ?_ | refine sLen tb ?_ | refine sFd tb ?_ | refine sBd tb ?_ | refine sBa tb ?_); try (first | refine gl tb ?_ | refine gg tb ?_ | refine ll tb ?_ | refine lg tb ?_))
  refine (G.loop (fun x : Nat × Value => [(0, none, v), (3, none, x.2), (4, none, .int .i64 x.1)]) (fun x w' => Ext w w' ∧ x.1 ≤ ls.length ∧ x.1 ≤ 10 ∧ LO w' w.heap.size x.2 (((ls.take x.1).map clipL).foldl setStep [])) (fun x => ls.length - x.1) (0, .slice none 0 0) (by repeat (first | exact Sub.nil _ | refine Sub.cons rfl ?_)) ⟨Ext.refl _, by simp, by simp, Owns.nil _ _ _ _⟩ ?_)
  rintro ⟨k, s⟩ w2 ⟨hx2, hk, hk10, ho⟩
  simp only at hk hk10 ho ⊢
  have hv2 := hv.to hx2
  try (first | refine gl tb ?_ | refine gg tb ?_ | refine ll tb ?_ | refine lg tb ?_); repeat ((first | refine G.condT rfl ?_ | refine G.condF rfl ?_ | refine sFa tb ?_ | refine sLd tb ?_ | refine sLa tb ?_ | refine sLen tb ?_ | refine sFd tb ?_ | refine sBd tb ?_ | refine sBa tb ?_); try (first | refine gl tb ?_ | refine gg tb ?_ | refine ll tb ?_ | refine lg tb ?_))
  rw [List.length_map]
  try (first | refine gl tb ?_ | refine gg tb ?_ | refine ll tb ?_ | refine lg tb ?_); repeat ((first | refine G.condT rfl ?_ | refine G.condF rfl ?_ | refine sFa tb ?_ | refine sLd tb ?_ | refine sLa tb ?_ | refine sLen tb ?_ | refine sFd tb ?_ | refine sBd tb ?_ | refine sBa tb ?_); try (first | refine gl tb ?_ | refine gg tb ?_ | refine ll tb ?_ | refine lg tb ?_))
  first | refine G.condD rfl (fun hc => ?_) (fun hc => ?_) | refine G.condN rfl (fun hc => ?_) (fun hc => ?_) | refine G.cond rfl (fun hc => ?_) (fun hc => ?_)
  · simp only [Bool.and_eq_true, decide_eq_true_eq] at hc
    have hlt : k < ls.length := by omega
    obtain ⟨x, hmem, hget, htk, -, -⟩ := Labs.at hlt
    have hxz := hz x hmem
    have hsn : ((ls.take (k + 1)).map clipL).foldl setStep [] = setStep (((ls.take k).map clipL).foldl setStep []) (clipL x) := by
      rw [htk, List.map_append, List.map_cons, List.map_nil, setTo_snoc]
    have hlen := setTo_len ((ls.take k).map clipL)
    have hcz : LabSz (clipL x) := ⟨hxz.1, by have := hxz.2; show (x.2.take 60).length ≤ _; rw [List.length_take]; omega⟩
    have hm : ∀ y ∈ ((ls.take k).map clipL).foldl setStep [], LabSz y := fun y hy => by
      obtain ⟨z, h1, rfl⟩ := List.mem_map.1 (setTo_mem hy)
      have hzz := hz z (List.mem_of_mem_take h1)
      exact ⟨hzz.1, by have := hzz.2; show (z.2.take 60).length ≤ _; rw [List.length_take]; omega⟩
    generalize ((ls.take k).map clipL).foldl setStep [] = out at ho hsn hlen hm
    try (first | refine gl tb ?_ | refine gg tb ?_ | refine ll tb ?_ | refine lg tb ?_); repeat ((first | refine G.condT rfl ?_ | refine G.condF rfl ?_ | refine sFa tb ?_ | refine sLd tb ?_ | refine sLa tb ?_ | refine sLen tb ?_ | refine sFd tb ?_ | refine sBd tb ?_ | refine sIa tb k ?_); try (first | refine gl tb ?_ | refine gg tb ?_ | refine ll tb ?_ | refine lg tb ?_))
    refine sAl tb ?_
    intro W3 hb3 hs3 hx3
    refine sSt tb ?_ (vs := labC x) (hv := rfl) (hb := hb3) (h1 := by simp [Value.oneCell', S, labC])
    intro W4 hb4 hw4
    have hx4 : Ext w2 W4 := Below.wr hx3 hw4 (Nat.le_refl _)
    have hsz4 : w2.heap.size < W4.heap.size := hb4.lt
    try (first | refine gl tb ?_ | refine gg tb ?_ | refine ll tb ?_ | refine lg tb ?_); repeat ((first | refine G.condT rfl ?_ | refine G.condF rfl ?_ | refine sFa tb ?_ | refine sLd tb ?_ | refine sLa tb ?_ | refine sLen tb ?_ | refine sFd tb ?_ | refine sBd tb ?_ | refine sBa tb ?_); try (first | refine gl tb ?_ | refine gg tb ?_ | refine ll tb ?_ | refine lg tb ?_))
    refine (G.join (fun _ : Unit => [(0, none, v), (3, none, s), (4, none, .int .i64 k), (5, none, ptr w2.heap.size)]) (fun _ w' => Ext w2 w' ∧ Bx w' w2.heap.size (labC (clipL x))) (fun _ W5 hW5 => ?_) ?_)
    rotate_left
    · first | refine G.condD rfl (fun hc => ?_) (fun hc => ?_) | refine G.condN rfl (fun hc => ?_) (fun hc => ?_) | refine G.cond rfl (fun hc => ?_) (fun hc => ?_)
      · try (first | refine gl tb ?_ | refine gg tb ?_ | refine ll tb ?_ | refine lg tb ?_); repeat ((first | refine G.condT rfl ?_ | refine G.condF rfl ?_ | refine sFa tb ?_ | refine sLd tb ?_ | refine sLa tb ?_ | refine sLen tb ?_ | refine sFd tb ?_ | refine sBd tb ?_ | refine sBa tb ?_); try (first | refine gl tb ?_ | refine gg tb ?_ | refine ll tb ?_ | refine lg tb ?_))
        refine GL.cons (Step.sliceSh tb 60 rfl (Op1.of rfl (by first | exact fun _ => rfl | exact fun h => h | exact fun h => bL h | exact fun h => bL (bL h) | exact fun h => bL (bL (bL h)))) (Op1.of rfl (by first | exact fun _ => rfl | exact fun h => h | exact fun h => bL h | exact fun h => bL (bL h) | exact fun h => bL (bL (bL h)))) rfl (fun _ => ⟨rfl, by omega⟩) rfl ?_)
        try (first | refine gl tb ?_ | refine gg tb ?_ | refine ll tb ?_ | refine lg tb ?_); repeat ((first | refine G.condT rfl ?_ | refine G.condF rfl ?_ | refine sFa tb ?_ | refine sLd tb ?_ | refine sLa tb ?_ | refine sLen tb ?_ | refine sFd tb ?_ | refine sBd tb ?_ | refine sBa tb ?_); try (first | refine gl tb ?_ | refine gg tb ?_ | refine ll tb ?_ | refine lg tb ?_))
        refine sSf tb (fun W5 hb5 hw5 => ?_)
        try (first | refine gl tb ?_ | refine gg tb ?_ | refine ll tb ?_ | refine lg tb ?_); repeat ((first | refine G.condT rfl ?_ | refine G.condF rfl ?_ | refine sFa tb ?_ | refine sLd tb ?_ | refine sLa tb ?_ | refine sLen tb ?_ | refine sFd tb ?_ | refine sBd tb ?_ | refine sBa tb ?_); try (first | refine gl tb ?_ | refine gg tb ?_ | refine ll tb ?_ | refine lg tb ?_))
        exact G.met () (by repeat (first | exact Sub.nil _ | refine Sub.cons rfl ?_)) ⟨hx4.wr hw5 (Nat.le_refl _), hb5⟩
      · have hl : clipL x = x := by
          unfold clipL; rw [List.take_of_length_le (by omega)]
        try (first | refine gl tb ?_ | refine gg tb ?_ | refine ll tb ?_ | refine lg tb ?_); repeat ((first | refine G.condT rfl ?_ | refine G.condF rfl ?_ | refine sFa tb ?_ | refine sLd tb ?_ | refine sLa tb ?_ | refine sLen tb ?_ | refine sFd tb ?_ | refine sBd tb ?_ | refine sBa tb ?_); try (first | refine gl tb ?_ | refine gg tb ?_ | refine ll tb ?_ | refine lg tb ?_))
        exact G.met () (by repeat (first | exact Sub.nil _ | refine Sub.cons rfl ?_)) ⟨hx4, by rw [hl]; exact hb4⟩
    obtain ⟨hx5, hb5⟩ := hW5
    have hx25 := hx2.trans hx5
    have ho5 := ho.to hx5
    generalize clipL x = y at hsn hcz hb5
    try (first | refine gl tb ?_ | refine gg tb ?_ | refine ll tb ?_ | refine lg tb ?_); repeat ((first | refine G.condT rfl ?_ | refine G.condF rfl ?_ | refine sFa tb ?_ | refine sLd tb ?_ | refine sLa tb ?_ | refine sLen tb ?_ | refine sFd tb ?_ | refine sBd tb ?_ | refine sBa tb ?_); try (first | refine gl tb ?_ | refine gg tb ?_ | refine ll tb ?_ | refine lg tb ?_))
    refine G.regionG (Ext W5.drew) mixed (Ext.refl _) ?_
    have hx3 := hx25.drew'
    have ho := ho5.to (Ext.drew W5)
    have hb := hb5.to (Ext.drew W5)
    generalize W5.drew = w3 at *
    refine GD.join [4, 2, 0, 3, 1] (fun x : Value × Value => [(33, none, x.1), (35, none, x.2), (0, none, v), (3, none, s), (4, none, .int .i64 k)]) (fun z w' => Ext w3 w' ∧ LO w' w3.heap.size z.1 out ∧ Labs w' z.2 [y]) ?_ fun meet => ?_
    · rintro ⟨s18, s23⟩ w4 ⟨hx4, ho18, ho23⟩
      simp only at ho18 ho23 ⊢
      have hxw := hx3.trans hx4
      refine GD.steps ([(5, false), (6, false), (7, true), (8, true), (9, true), (10, true), (11, true)]) (by kernel_rfl) (by kernel_rfl) rfl ?_
      refine GM.eff (Step.append tb rfl (Op1.of rfl (by first | exact fun _ => rfl | exact fun h => h | exact fun h => bL h | exact fun h => bL (bL h) | exact fun h => bL (bL (bL h)))) (Op1.of rfl (by first | exact fun _ => rfl | exact fun h => h | exact fun h => bL h | exact fun h => bL (bL h) | exact fun h => bL (bL (bL h)))) rfl rfl rfl (by rfl) (ho18) (ho23) (lab1 [y]) (by simp only [List.length_map, List.length_append, List.length_cons, List.length_nil, List.length_take, List.length_drop]; omega) (by simp only [List.length_map, List.length_append, List.length_cons, List.length_nil, List.length_take, List.length_drop]; omega) (hx4.size) rfl ?_)
      intro s24 w5 ho24 hg5
      have hx5 : Ext w3 w5 := hg5.below _ hx4
      have hx05 := hx3.trans hx5
      refine ⟨hx5, ?_⟩
      have ho24' : LO w5 w3.heap.size s24 (out ++ [y]) := by unfold LO; rw [List.map_append]; exact ho24
      have hm' : ∀ z ∈ out ++ [y], LabSz z := by
        intro z hz
        rcases List.mem_append.1 hz with h | h
        · exact hm z h
        · simp only [List.mem_cons, List.not_mem_nil, or_false] at h; subst h; exact hcz
      refine GM.eff (Step.callF rfl rfl rfl c23 rfl (refNew_ok s24 (out ++ [y]) w5 ho24'.sli (by simp only [List.length_append, List.length_cons, List.length_nil]; omega) hm') ?_)
      rintro r w6 ⟨sN, rfl, hoN, hx6⟩
      refine ⟨hx5.trans hx6, ?_⟩
      try (refine mm tb ?_); repeat ((first | refine dFa tb ?_ | refine dLd tb ?_ | refine dLa tb ?_ | refine dLen tb ?_ | refine dFd tb ?_); try (refine mm tb ?_))
      refine GM.nil ?_
      refine GD.done (by kernel_rfl) ?_
      try (first | refine gl tb ?_ | refine gg tb ?_ | refine ll tb ?_ | refine lg tb ?_); repeat ((first | refine G.condT rfl ?_ | refine G.condF rfl ?_ | refine sFa tb ?_ | refine sLd tb ?_ | refine sLa tb ?_ | refine sLen tb ?_ | refine sFd tb ?_ | refine sBd tb ?_ | refine sBa tb ?_); try (first | refine gl tb ?_ | refine gg tb ?_ | refine ll tb ?_ | refine lg tb ?_))
      have hst : setStep out y = if (newR (out ++ [y])).1 = 0 then (newR (out ++ [y])).2 else out := rfl
      first | refine G.condD rfl (fun hc => ?_) (fun hc => ?_) | refine G.condN rfl (fun hc => ?_) (fun hc => ?_) | refine G.cond rfl (fun hc => ?_) (fun hc => ?_)
      · rw [if_pos hc] at hst
        try (first | refine gl tb ?_ | refine gg tb ?_ | refine ll tb ?_ | refine lg tb ?_); repeat ((first | refine G.condT rfl ?_ | refine G.condF rfl ?_ | refine sFa tb ?_ | refine sLd tb ?_ | refine sLa tb ?_ | refine sLen tb ?_ | refine sFd tb ?_ | refine sBd tb ?_ | refine sBa tb ?_); try (first | refine gl tb ?_ | refine gg tb ?_ | refine ll tb ?_ | refine lg tb ?_))
        refine sAd tb ?_
        try (first | refine gl tb ?_ | refine gg tb ?_ | refine ll tb ?_ | refine lg tb ?_); repeat ((first | refine G.condT rfl ?_ | refine G.condF rfl ?_ | refine sFa tb ?_ | refine sLd tb ?_ | refine sLa tb ?_ | refine sLen tb ?_ | refine sFd tb ?_ | refine sBd tb ?_ | refine sBa tb ?_); try (first | refine gl tb ?_ | refine gg tb ?_ | refine ll tb ?_ | refine lg tb ?_))
        exact G.lp (x := (k, s)) (k + 1, sN) (by repeat (first | exact Sub.nil _ | refine Sub.cons rfl ?_)) ⟨hx05.trans hx6, by simp only; omega, by simp only; omega, by simp only [hsn, hst]; exact hoN.mono hx05.size⟩ (by simp only; omega)
      · rw [if_neg hc] at hst
        try (first | refine gl tb ?_ | refine gg tb ?_ | refine ll tb ?_ | refine lg tb ?_); repeat ((first | refine G.condT rfl ?_ | refine G.condF rfl ?_ | refine sFa tb ?_ | refine sLd tb ?_ | refine sLa tb ?_ | refine sLen tb ?_ | refine sFd tb ?_ | refine sBd tb ?_ | refine sBa tb ?_); try (first | refine gl tb ?_ | refine gg tb ?_ | refine ll tb ?_ | refine lg tb ?_))
        refine sAd tb ?_
        try (first | refine gl tb ?_ | refine gg tb ?_ | refine ll tb ?_ | refine lg tb ?_); repeat ((first | refine G.condT rfl ?_ | refine G.condF rfl ?_ | refine sFa tb ?_ | refine sLd tb ?_ | refine sLa tb ?_ | refine sLen tb ?_ | refine sFd tb ?_ | refine sBd tb ?_ | refine sBa tb ?_); try (first | refine gl tb ?_ | refine gg tb ?_ | refine ll tb ?_ | refine lg tb ?_))
        exact G.lp (x := (k, s)) (k + 1, s) (by repeat (first | exact Sub.nil _ | refine Sub.cons rfl ?_)) ⟨hx05.trans hx6, by simp only; omega, by simp only; omega, by simp only [hsn, hst]; exact ho.to (hx5.trans hx6)⟩ (by simp only; omega)
    · refine GD.steps ([(1, true), (3, true)]) (by kernel_rfl) (by kernel_rfl) rfl ?_
      try (refine mm tb ?_); repeat ((first | refine dFa tb ?_ | refine dLd tb ?_ | refine dLa tb ?_ | refine dLen tb ?_ | refine dFd tb ?_); try (refine mm tb ?_))
      refine GM.nil ?_
      refine GD.two (0) (4) (by kernel_rfl) (by kernel_rfl) rfl rfl ?_ ?_
      · refine (Step.buildSlice tb ([]) rfl rfl rfl rfl rfl rfl (by rfl) rfl (by rfl) (by rfl) (by rfl) (by simp) rfl ?_)
        intro s16 w4 ho16 hs4 hx4
        refine ⟨hx4, ?_⟩
        have ho4 := ho.to hx4
        have hxw := hx3.trans hx4
        refine GD.two (2) (4) (by kernel_rfl) (by kernel_rfl) rfl rfl ?_ ?_
        · refine (Step.append tb rfl (Op1.of rfl (by first | exact fun _ => rfl | exact fun h => h | exact fun h => bL h | exact fun h => bL (bL h) | exact fun h => bL (bL (bL h)))) (Op1.of rfl (by first | exact fun _ => rfl | exact fun h => h | exact fun h => bL h | exact fun h => bL (bL h) | exact fun h => bL (bL (bL h)))) rfl rfl rfl (by rfl) (ho16) (ho4.sli) (lab1 _) (by simp only [List.length_map, List.length_append, List.length_cons, List.length_nil, List.length_take, List.length_drop]; omega) (by simp only [List.length_map, List.length_append, List.length_cons, List.length_nil, List.length_take, List.length_drop]; omega) (hx4.size) rfl ?_)
          intro s18 w5 ho18 hg5
          have hx5 : Ext w3 w5 := hg5.below _ hx4
          refine ⟨hx5, ?_⟩
          refine GD.steps ([(4, false)]) (by kernel_rfl) (by kernel_rfl) rfl ?_
          refine GM.eff (Step.buildSlice tb ([labC y]) rfl rfl rfl rfl rfl rfl (by rfl) rfl (by rfl) (by rfl) (by rfl) (labLen [y]) rfl ?_)
          intro s23 w6 ho23 hs6 hx6
          refine ⟨hx5.trans hx6, ?_⟩
          refine GM.nil ?_
          exact meet (s18, s23) _ _ _ rfl rfl (by repeat (first | exact Sub.nil _ | refine Sub.cons rfl ?_)) ⟨hx5.trans hx6, by simpa using ho18.to hx6, ho23.sli⟩
        · refine (Step.buildSlice tb ([labC y]) rfl rfl rfl rfl rfl rfl (by rfl) rfl (by rfl) (by rfl) (by rfl) (labLen [y]) rfl ?_)
          intro s23 w5 ho23 hs5 hx5
          refine ⟨hx4.trans hx5, ?_⟩
          refine GD.steps ([(2, false)]) (by kernel_rfl) (by kernel_rfl) rfl ?_
          refine GM.eff (Step.append tb rfl (Op1.of rfl (by first | exact fun _ => rfl | exact fun h => h | exact fun h => bL h | exact fun h => bL (bL h) | exact fun h => bL (bL (bL h)))) (Op1.of rfl (by first | exact fun _ => rfl | exact fun h => h | exact fun h => bL h | exact fun h => bL (bL h) | exact fun h => bL (bL (bL h)))) rfl rfl rfl (by rfl) (ho16.to hx5) (ho4.sli.to hx5) (lab1 _) (by simp only [List.length_map, List.length_append, List.length_cons, List.length_nil, List.length_take, List.length_drop]; omega) (by simp only [List.length_map, List.length_append, List.length_cons, List.length_nil, List.length_take, List.length_drop]; omega) ((hx4.trans hx5).size) rfl ?_)
          intro s18 w6 ho18 hg6
          have hx6 := hg6.below _ (hx4.trans hx5)
          refine ⟨hx6, ?_⟩
          refine GM.nil ?_
          exact meet (s18, s23) _ _ _ rfl rfl (by repeat (first | exact Sub.nil _ | refine Sub.cons rfl ?_)) ⟨hx6, by simpa using ho18, (ho23.grew hg6 (ho16.apart ho23)).sli⟩
      · refine (Step.buildSlice tb ([labC y]) rfl rfl rfl rfl rfl rfl (by rfl) rfl (by rfl) (by rfl) (by rfl) (labLen [y]) rfl ?_)
        intro s23 w4 ho23 hs4 hx4
        refine ⟨hx4, ?_⟩
        refine GD.steps ([(0, false), (2, false)]) (by kernel_rfl) (by kernel_rfl) rfl ?_
        refine GM.eff (Step.buildSlice tb ([]) rfl rfl rfl rfl rfl rfl (by rfl) rfl (by rfl) (by rfl) (by rfl) (by simp) rfl ?_)
        intro s16 w5 ho16 hs5 hx5
        have hx45 := hx4.trans hx5
        refine ⟨hx45, ?_⟩
        refine GM.eff (Step.append tb rfl (Op1.of rfl (by first | exact fun _ => rfl | exact fun h => h | exact fun h => bL h | exact fun h => bL (bL h) | exact fun h => bL (bL (bL h)))) (Op1.of rfl (by first | exact fun _ => rfl | exact fun h => h | exact fun h => bL h | exact fun h => bL (bL h) | exact fun h => bL (bL (bL h)))) rfl rfl rfl (by rfl) (ho16) ((ho.to hx45).sli) (lab1 _) (by simp only [List.length_map, List.length_append, List.length_cons, List.length_nil, List.length_take, List.length_drop]; omega) (by simp only [List.length_map, List.length_append, List.length_cons, List.length_nil, List.length_take, List.length_drop]; omega) (hx5.size) rfl ?_)
        intro s18 w6 ho18 hg6
        have hx6 := hg6.below _ hx5
        refine ⟨hx4.trans hx6, ?_⟩
        refine GM.nil ?_
        exact meet (s18, s23) _ _ _ rfl rfl (by repeat (first | exact Sub.nil _ | refine Sub.cons rfl ?_)) ⟨hx4.trans hx6, by simpa using ho18.mono hx4.size, (ho23.to hx6).sli⟩
  · simp only [Bool.and_eq_false_iff, decide_eq_false_iff_not] at hc
    have e : ls.take k = ls.take 10 := by
      rcases hc with h | h
      · rw [List.take_of_length_le (by omega), List.take_of_length_le (by omega)]
      · rw [show k = 10 by omega]
    rw [e] at ho
    try (first | refine gl tb ?_ | refine gg tb ?_ | refine ll tb ?_ | refine lg tb ?_); repeat ((first | refine G.condT rfl ?_ | refine G.condF rfl ?_ | refine sFa tb ?_ | refine sLd tb ?_ | refine sLa tb ?_ | refine sLen tb ?_ | refine sFd tb ?_ | refine sBd tb ?_ | refine sBa tb ?_); try (first | refine gl tb ?_ | refine gg tb ?_ | refine ll tb ?_ | refine lg tb ?_))
    refine G.ret1 rfl rfl rfl rfl ?_
    exact ⟨ho, hx2⟩
end Lab
end Go.Proofs.YtmkckngecjpklaaDoor
end
section
open Go Go.Vg Go.RowKit Go.Proofs Go.Proofs.YtmkckngecjpklaaDoor
namespace Go.Proofs.YtmkckngecjpklaaDoor
set_option linter.unusedSimpArgs false

def wx1 : List UInt8 := [40, 46, 42, 41, 45, 40, 46, 42, 41]
def tx1 : Rx.T := .seq [.grp 1 (.seq [.rep 0 (-1) false false (.set [] true)]), .set [(45, 45)] false, .grp 2 (.seq [.rep 0 (-1) false false (.set [] true)])]
theorem comp_wx1 : Rx.comp wx1 = .ok (tx1, 2) := by rfl
def rw0 : Rule := ⟨1, [[97], [98]], [45], wx1, 0, [99], [36, 50, 36, 49]⟩
def wl0 : List Lab.Lab := [([97], [49]), ([98], [50])]
def wl1 : List Lab.Lab := [([97], [49]), ([98], [50]), ([99], [50, 49])]
theorem rule_w0 : ruleR wl0 rw0 tx1 2 = (wl1, true) := by decide +kernel
theorem rule_w1 : ruleR wl1 rw0 tx1 2 = (wl1, true) := by decide +kernel
theorem right_w : rightR rw0 = true := by decide +kernel
theorem rw0_sz : RuleSz rw0 := ⟨by decide, fun s hs => by
  simp only [rw0, List.mem_cons, List.not_mem_nil, or_false] at hs
  rcases hs with rfl | rfl <;> (show _ ≤ _; decide), by decide, by decide, by decide, by decide⟩
theorem rw0_ok (w : World) (sv : Value) (hu : Srcs w rw0 sv) (hT : Tabs w) : RuleOk (fun r ls => ruleR ls r tx1 2) (fun ls => ls = wl0 ∨ ls = wl1) w (rw0, sv) := by
  intro W v cur _ hx hi hv
  refine ⟨rule_okR v sv cur rw0 tx1 2 W hv ?_ ?_ (hu.to hx) rw0_sz comp_wx1 (.inl rfl) ?_ (hT.to hx), fun _ => ?_⟩
  · rcases hi with rfl | rfl <;> (unfold Lab.sortedL; decide +kernel)
  · rcases hi with rfl | rfl <;> decide
  · rcases hi with rfl | rfl <;> decide +kernel
  · rcases hi with rfl | rfl
    · exact .inr (show (ruleR wl0 rw0 tx1 2).1 = wl1 by rw [rule_w0])
    · exact .inr (show (ruleR wl1 rw0 tx1 2).1 = wl1 by rw [rule_w1])
theorem due_w : Sc.due 3 10 0 20 = some 13 := by decide +kernel
set_option maxHeartbeats 1000000 in
theorem wakes_okS (w : World) (hT : Tabs w) : Ret Tryd.prog 9 ⟨[]⟩ w fun r w' => r = .bool true ∧ Ext w w' := by
  refine ret_of_G Tryd.func9 rfl Tryd.ntmps9 rfl ?_
  simp only [argEnv]
  try (first | refine gl tb ?_ | refine gg tb ?_ | refine ll tb ?_ | refine lg tb ?_); repeat ((first | refine G.condT rfl ?_ | refine G.condF rfl ?_ | refine sFa tb ?_ | refine sLd tb ?_ | refine sLa tb ?_ | refine sLen tb ?_ | refine sFd tb ?_ | refine sBd tb ?_ | refine sBa tb ?_); try (first | refine gl tb ?_ | refine gg tb ?_ | refine ll tb ?_ | refine lg tb ?_))
  refine sBs' tb (wl0.map Lab.labC) (fun u1 W1 ho1 hs1 hx1 => ?_) (hkl := Lab.labLen wl0)
  try (first | refine gl tb ?_ | refine gg tb ?_ | refine ll tb ?_ | refine lg tb ?_); repeat ((first | refine G.condT rfl ?_ | refine G.condF rfl ?_ | refine sFa tb ?_ | refine sLd tb ?_ | refine sLa tb ?_ | refine sLen tb ?_ | refine sFd tb ?_ | refine sBd tb ?_ | refine sBa tb ?_); try (first | refine gl tb ?_ | refine gg tb ?_ | refine ll tb ?_ | refine lg tb ?_))
  refine sBs' tb ([[97], [98]].map strC) (fun u2 W2 ho2 hs2 hx2 => ?_) (hkl := by simp [strC])
  obtain ⟨a2, c2, rfl, -⟩ := ho2.sli.len
  try (first | refine gl tb ?_ | refine gg tb ?_ | refine ll tb ?_ | refine lg tb ?_); repeat ((first | refine G.condT rfl ?_ | refine G.condF rfl ?_ | refine sFa tb ?_ | refine sLd tb ?_ | refine sLa tb ?_ | refine sLen tb ?_ | refine sFd tb ?_ | refine sBd tb ?_ | refine sBa tb ?_); try (first | refine gl tb ?_ | refine gg tb ?_ | refine ll tb ?_ | refine lg tb ?_))
  refine sBs' tb ([(rw0, Value.slice a2 2 c2)].map relC2) (fun u3 W3 ho3 hs3 hx3 => ?_) (hfill := by kernel_rfl) (hkl := by simp [relC2, relC])
  try (first | refine gl tb ?_ | refine gg tb ?_ | refine ll tb ?_ | refine lg tb ?_); repeat ((first | refine G.condT rfl ?_ | refine G.condF rfl ?_ | refine sFa tb ?_ | refine sLd tb ?_ | refine sLa tb ?_ | refine sLen tb ?_ | refine sFd tb ?_ | refine sBd tb ?_ | refine sBa tb ?_); try (first | refine gl tb ?_ | refine gg tb ?_ | refine ll tb ?_ | refine lg tb ?_))
  have hx13 := hx2.trans hx3
  have hx03 := hx1.trans hx13
  have hu2 : Srcs W3 rw0 (.slice a2 2 c2) := (ho2.to hx3).sli
  have hrel := relabel_ok (fun r ls => ruleR ls r tx1 2) (fun ls => ls = wl0 ∨ ls = wl1) u1 u3 wl0 [(rw0, .slice a2 2 c2)] W3 (ho1.to hx13).sli (.inl rfl) (by decide) ho3.sli (fun p hp => by
      simp only [List.mem_cons, List.not_mem_nil, or_false] at hp
      subst hp
      exact ⟨hu2, rw0_sz, rw0_ok W3 _ hu2 (hT.to hx03)⟩) (hT.to hx03)
  refine sCall c13 (hrel) ?_
  rintro _ W4 ⟨u, rfl, hl4, hx4⟩
  have e : relF (fun r ls => ruleR ls r tx1 2) ([(rw0, Value.slice a2 2 c2)].map (·.1)) wl0 = (wl1, true) := by
    simp only [List.map_cons, List.map_nil, relF, right_w, if_true, rule_w0]
  simp only [e] at hl4 ⊢
  try (first | refine gl tb ?_ | refine gg tb ?_ | refine ll tb ?_ | refine lg tb ?_); repeat ((first | refine G.condT rfl ?_ | refine G.condF rfl ?_ | refine sFa tb ?_ | refine sLd tb ?_ | refine sLa tb ?_ | refine sLen tb ?_ | refine sFd tb ?_ | refine sBd tb ?_ | refine sBa tb ?_); try (first | refine gl tb ?_ | refine gg tb ?_ | refine ll tb ?_ | refine lg tb ?_))
  refine sCall c7 (due_ok (S []) (.slice none 0 0) (S []) 3 10 0 20 W4 (by decide) (by decide) (by decide)) ?_
  rintro _ W5 ⟨rfl, hx5⟩
  rw [due_w]
  simp only [dueV]
  have hl5 : Lab.Labs W5 u wl1 := (Owns.to hl4 hx5).sli
  have hg2 : (wl1.map Lab.labC)[2]? = some (Lab.labC ([99], [50, 49])) := rfl
  try (first | refine gl tb ?_ | refine gg tb ?_ | refine ll tb ?_ | refine lg tb ?_); repeat ((first | refine G.condT rfl ?_ | refine G.condF rfl ?_ | refine sFa tb ?_ | refine sLd tb ?_ | refine sLa tb ?_ | refine sLen tb ?_ | refine sFd tb ?_ | refine sBd tb ?_ | refine sIa tb 2 ?_); try (first | refine gl tb ?_ | refine gg tb ?_ | refine ll tb ?_ | refine lg tb ?_))
  refine G.ret1 rfl rfl rfl rfl ?_
  exact ⟨rfl, (hx03.trans hx4).trans hx5⟩
end Go.Proofs.YtmkckngecjpklaaDoor
end
section
namespace Go.Vg
open Go.RowKit Go.WideShapes Go.ChangeShapes
theorem field_ok {P : Program} {w : World} {b t u e i : Nat} {fs : Array Field} {cs : Array Value} {ts : List TypeId} {v : Value} (ht : P.underlying t = some (.struct fs)) (h : OkW P w b t (.agg cs)) (hct : P.cellTypes P.depth t = some ts) (hi : ts[i]? = some u)
    (hv : cs[i]? = some v) (hu : P.underlying u = some (.slice e)) : OkW P w b u v := by
  have h := h.ok
  simp only [Value.okWide, ht] at h
  obtain ⟨cs', hcs, _, ts', hts, _, hall⟩ := h
  cases hcs
  rw [hct] at hts
  cases hts
  obtain ⟨u', hu', hok⟩ := hall i v hv
  have hlt := (List.getElem?_eq_some_iff.1 hi).1
  rw [Nat.mod_eq_of_lt hlt, hi] at hu'
  cases hu'
  exact ⟨by simp only [Value.okWide, hu]; exact hok⟩
/-- a field that is a slice -/
theorem open_rows1 {H : Type} {enc : TypeId × Value → H} {P : Program} {w : World} {sp : Nat → Bool} {hd : Bool} {t e k b0 n : Nat} {α : Type} {v : Value} {x : DataW H × List MemPlace} (dec : α → List Value) (Q : α → Prop)
    (ht : P.underlying t = some (.slice e)) (hc : P.cellsOf e = k) (hel : ∀ n cs x, DataW.trod enc P w 0 sp hd n e cs = some x → ∃ a, cs = dec a ∧ Q a)
    (hval : OkW P w b0 t v) (h : DataW.trod enc P w 0 sp hd n t [v] = some x) : ∃ ls : List α, Sli w v k (ls.map dec) ∧ ∀ a ∈ ls, Q a := by
  obtain ⟨a0, len, cap, rfl⟩ := okWide_slice ht hval.ok
  exact open_rows (d := x.1) (p := x.2) dec Q ht hc hel hval ⟨n, h⟩
end Go.Vg
end
section
namespace Go.Vg
open Go.RowKit Go.Deep Go.WideShapes Go
theorem open_aggN {H : Type} {enc : TypeId × Value → H} {P : Program} {w : World} {base : Nat} {spare : Nat → Bool} {held : Bool} {b0 t m : Nat} {fs : Array Field} {v : Value} {d : DataW H} {p : List MemPlace} (hs : P.underlying t = some (.struct fs)) (hone : oneCellFields P fs = true) (hC : P.cellsOf t = m)
    (hv : OkW P w b0 t v) (h : DataW.Trod enc P w base spare held t v d p) :
    ∃ (cs : List Value) (n : Nat), v = .agg ⟨cs⟩ ∧ cs.length = m ∧ ∀ (i : Nat) (f : Field) (c : Value), fs[i]? = some f → cs[i]? = some c → ∃ y, DataW.trod enc P w base spare held n f.type [c] = some y := by
  obtain ⟨cs, rfl, hsz⟩ := okWide_struct hs hv.ok
  obtain ⟨cs⟩ := cs
  obtain ⟨fuel, hf⟩ := h
  obtain ⟨xs, n, _, hx, hl, hlen, hf⟩ := DataW.trod_struct hs hf
  refine ⟨cs, n, rfl, by simpa [hC] using hsz, fun i f c hi hc => ?_⟩
  obtain ⟨o, k⟩ := hone_of hone i f (by simpa using hi)
  have h1 := hf i f (by simpa using hi)
  have hlt : i < xs.length := by
    rw [hlen]
    have := (Array.getElem?_eq_some_iff.1 hi).1
    simpa using this
  refine ⟨xs[i], ?_⟩
  have hcs : (cs.drop i).take 1 = [c] := by
    have hi2 := List.getElem?_eq_some_iff.1 hc
    obtain ⟨h2, rfl⟩ := hi2
    rw [List.drop_eq_getElem_cons h2]; rfl
  simpa [Value.cells, o, k, hcs, hlt] using h1
end Go.Vg
end
section
open Go Go.Vg Go.RowKit Go.Proofs Go.Proofs.YtmkckngecjpklaaDoor
namespace Go.Proofs.YtmkckngecjpklaaDoor
set_option linter.unusedSimpArgs false
open Go.Lib Go.Shelf Go.ChangeShapes Go.WideShapes Go.ChangeAt
theorem int_of {H : Type} {enc : TypeId × Value → H} {P : Program} {w : World} {b : Nat} {sp : Nat → Bool} {hd : Bool} {t n : Nat} {c : Value} (ht : P.underlying t = some (.int .i64)) (h : ∃ y, DataW.trod enc P w b sp hd n t [c] = some y) : ∃ m : Int, c = .int .i64 m ∧ I64 m := by
  obtain ⟨y, hy⟩ := h
  obtain ⟨m, hm, hw⟩ := open_int1 ht hy
  simp only [List.cons.injEq, and_true] at hm
  exact ⟨m, hm, wf_i64 hw⟩
theorem str_of {H : Type} {enc : TypeId × Value → H} {P : Program} {w : World} {b : Nat} {sp : Nat → Bool} {hd : Bool} {t n : Nat} {c : Value} (ht : P.underlying t = some .string) (h : ∃ y, DataW.trod enc P w b sp hd n t [c] = some y) : ∃ s : List UInt8, c = S s ∧ s.length ≤ 9223372036854775807 := by
  obtain ⟨y, hy⟩ := h
  obtain ⟨m, hm, hw⟩ := open_str ht hy
  simp only [List.cons.injEq, and_true] at hm
  exact ⟨m, hm, hw⟩
end Go.Proofs.YtmkckngecjpklaaDoor
end
