/- RegexAlgebra, walked. -/
import Derived.Test.YtbpkhgehchelhaaDoorRW
import Derived.Test.YtbpkhgehchelhaaDoorGV3
open Go Go.Vg Go.RowKit Go.Proofs Go.Proofs.YtbpkhgehchelhaaDoor
namespace Go.Proofs.YtbpkhgehchelhaaDoor
set_option linter.unusedSimpArgs false

/-- what Compile tells, all cases in one form -/
def ComU (s : List UInt8) (w : World) (r : Value) (w' : World) : Prop :=
  Ext w w' ∧ ∃ (p : Option Addr) (at_ e : Int), r = .tuple ⟨[.pointer p, .int .i64 at_, .int .i64 e]⟩ ∧
    ((e = 0 ∧ ∃ t g pb, p = some ⟨pb, 0, none⟩ ∧ Rx.comp s = .ok (t, g) ∧ Exp w' pb t g) ∨ (e ≠ 0 ∧ p = none ∧ ∃ e' f, Rx.comp s = .error (e', f) ∧ e = if f = 1 then 8 else 9))
theorem compU_ok (w : World) (s : List UInt8) (hT : Tabs w) (hl : s.length ≤ 9223372036854775807) : Ret Tryd.prog 11 ⟨[S s]⟩ w (ComU s w) :=
  Calls.mono (comp_ok w s hT hl) fun r w' ⟨v, er, h⟩ => ⟨v, er, by
    obtain ⟨hx, h⟩ := h
    refine ⟨hx, ?_⟩
    rcases h with ⟨t, g, pb, h1, h2, rfl⟩ | ⟨e, f, h1, rfl⟩
    · exact ⟨_, _, _, rfl, .inl ⟨rfl, t, g, pb, rfl, h1, h2⟩⟩
    · exact ⟨none, _, _, rfl, .inr ⟨by split <;> decide, rfl, e, f, h1, rfl⟩⟩⟩

/-- a compiled expression that may be refused for its size -/
structure MayM (w : World) (p : Option Addr) (e : Int) (m : List UInt8 → Bool) : Prop where
  or_ : e = 0 ∨ e = 9
  run : e = 0 → ∀ W, Ext w W → ∀ x : List UInt8, x.length ≤ 60 → Ret Tryd.prog 18 ⟨[.pointer p, S x]⟩ W fun r w' => r = .bool (m x) ∧ Ext W w'
theorem MayM.to {w w' : World} {p : Option Addr} {e : Int} {m : List UInt8 → Bool} (h : MayM w p e m) (hx : Ext w w') : MayM w' p e m := ⟨h.or_, fun he W hW => h.run he W (hx.trans hW)⟩
theorem mayM {s : List UInt8} {w' : World} {p : Option Addr} {e : Int} (hT : Tabs w') (hE : ∀ e' f, Rx.comp s = .error (e', f) → f = 2)
    (h : (e = 0 ∧ ∃ t g pb, p = some ⟨pb, 0, none⟩ ∧ Rx.comp s = .ok (t, g) ∧ Exp w' pb t g) ∨ (e ≠ 0 ∧ p = none ∧ ∃ e' f, Rx.comp s = .error (e', f) ∧ e = if f = 1 then 8 else 9)) :
    ∃ m, MayM w' p e m ∧ (e = 0 → ∃ t g, Rx.comp s = .ok (t, g) ∧ m = Rx.mt t g) := by
  rcases h with ⟨rfl, t, g, pb, rfl, h1, h2⟩ | ⟨hne, rfl, e', f, h1, rfl⟩
  · exact ⟨Rx.mt t g, ⟨.inl rfl, fun _ W hx x hl => match_ok W pb t g x (hT.to hx) (h2.to hx) (by omega)⟩, fun _ => ⟨t, g, h1, rfl⟩⟩
  · have := hE _ _ h1
    subst this
    exact ⟨fun _ => false, ⟨.inr rfl, fun h => absurd h (by decide)⟩, fun h => absurd h (by decide)⟩

set_option maxHeartbeats 4000000 in
theorem algebra_law (a b : List UInt8) (v : Value) (ss : List (List UInt8)) (w : World) (hla : a.length ≤ 9223372036854775807) (hlb : b.length ≤ 9223372036854775807) (hv : Sli w v 1 (ss.map strC)) (hz : ∀ x ∈ ss, x.length ≤ 9223372036854775807) (hT : Tabs w) :
    Ret Tryd.prog 4 ⟨[S a, S b, v]⟩ w fun r w' => r = .bool true ∧ Ext w w' := by
  refine ret_of_G Tryd.func4 rfl Tryd.ntmps4 rfl ?_
  simp only [argEnv]
  try (first | refine gl tb ?_ | refine gg tb ?_ | refine ll tb ?_ | refine lg tb ?_); repeat ((first | refine G.condT rfl ?_ | refine G.condF rfl ?_ | refine sFa tb ?_ | refine sLd tb ?_ | refine sLa tb ?_ | refine sLen tb ?_ | refine sFd tb ?_ | refine sBd tb ?_ | refine sBa tb ?_); try (first | refine gl tb ?_ | refine gg tb ?_ | refine ll tb ?_ | refine lg tb ?_))
  first | refine G.condD rfl (fun hc => ?_) (fun hc => ?_) | refine G.condN rfl (fun hc => ?_) (fun hc => ?_) | refine G.cond rfl (fun hc => ?_) (fun hc => ?_)
  · try (first | refine gl tb ?_ | refine gg tb ?_ | refine ll tb ?_ | refine lg tb ?_); repeat ((first | refine G.condT rfl ?_ | refine G.condF rfl ?_ | refine sFa tb ?_ | refine sLd tb ?_ | refine sLa tb ?_ | refine sLen tb ?_ | refine sFd tb ?_ | refine sBd tb ?_ | refine sBa tb ?_); try (first | refine gl tb ?_ | refine gg tb ?_ | refine ll tb ?_ | refine lg tb ?_))
    refine sCall c13 (wakes_ok w hT) ?_
    rintro _ W ⟨rfl, hx⟩
    try (first | refine gl tb ?_ | refine gg tb ?_ | refine ll tb ?_ | refine lg tb ?_); repeat ((first | refine G.condT rfl ?_ | refine G.condF rfl ?_ | refine sFa tb ?_ | refine sLd tb ?_ | refine sLa tb ?_ | refine sLen tb ?_ | refine sFd tb ?_ | refine sBd tb ?_ | refine sBa tb ?_); try (first | refine gl tb ?_ | refine gg tb ?_ | refine ll tb ?_ | refine lg tb ?_))
    refine G.ret1 rfl rfl rfl rfl ?_
    exact ⟨rfl, hx⟩
  have hc1 : a.length ≤ 60 ∧ b.length ≤ 60 := by
    simp only [Bool.or_eq_false_iff, decide_eq_false_iff_not] at hc
    omega
  clear hc hla hlb
  obtain ⟨hla, hlb⟩ := hc1
  try (first | refine gl tb ?_ | refine gg tb ?_ | refine ll tb ?_ | refine lg tb ?_); repeat ((first | refine G.condT rfl ?_ | refine G.condF rfl ?_ | refine sFa tb ?_ | refine sLd tb ?_ | refine sLa tb ?_ | refine sLen tb ?_ | refine sFd tb ?_ | refine sBd tb ?_ | refine sBa tb ?_); try (first | refine gl tb ?_ | refine gg tb ?_ | refine ll tb ?_ | refine lg tb ?_))
  refine sCall c11 (compU_ok w a hT (by omega)) ?_
  rintro _ W1 ⟨hx1, p1, n1, e1, rfl, hr1⟩
  try (first | refine gl tb ?_ | refine gg tb ?_ | refine ll tb ?_ | refine lg tb ?_); repeat ((first | refine G.condT rfl ?_ | refine G.condF rfl ?_ | refine sFa tb ?_ | refine sLd tb ?_ | refine sLa tb ?_ | refine sLen tb ?_ | refine sFd tb ?_ | refine sBd tb ?_ | refine sBa tb ?_); try (first | refine gl tb ?_ | refine gg tb ?_ | refine ll tb ?_ | refine lg tb ?_))
  refine sCall c11 (compU_ok W1 b (hT.to hx1) (by omega)) ?_
  rintro _ W2 ⟨hx2, p2, n2, e2, rfl, hr2⟩
  have hT2 := hT.to (hx1.trans hx2)
  try (first | refine gl tb ?_ | refine gg tb ?_ | refine ll tb ?_ | refine lg tb ?_); repeat ((first | refine G.condT rfl ?_ | refine G.condF rfl ?_ | refine sFa tb ?_ | refine sLd tb ?_ | refine sLa tb ?_ | refine sLen tb ?_ | refine sFd tb ?_ | refine sBd tb ?_ | refine sBa tb ?_); try (first | refine gl tb ?_ | refine gg tb ?_ | refine ll tb ?_ | refine lg tb ?_))
  refine sPn tb ?_
  try (first | refine gl tb ?_ | refine gg tb ?_ | refine ll tb ?_ | refine lg tb ?_); repeat ((first | refine G.condT rfl ?_ | refine G.condF rfl ?_ | refine sFa tb ?_ | refine sLd tb ?_ | refine sLa tb ?_ | refine sLen tb ?_ | refine sFd tb ?_ | refine sBd tb ?_ | refine sBa tb ?_); try (first | refine gl tb ?_ | refine gg tb ?_ | refine ll tb ?_ | refine lg tb ?_))
  refine sPn tb ?_
  try (first | refine gl tb ?_ | refine gg tb ?_ | refine ll tb ?_ | refine lg tb ?_); repeat ((first | refine G.condT rfl ?_ | refine G.condF rfl ?_ | refine sFa tb ?_ | refine sLd tb ?_ | refine sLa tb ?_ | refine sLen tb ?_ | refine sFd tb ?_ | refine sBd tb ?_ | refine sBa tb ?_); try (first | refine gl tb ?_ | refine gg tb ?_ | refine ll tb ?_ | refine lg tb ?_))
  first | refine G.condD rfl (fun hc => ?_) (fun hc => ?_) | refine G.condN rfl (fun hc => ?_) (fun hc => ?_) | refine G.cond rfl (fun hc => ?_) (fun hc => ?_)
  · have hee : e1 ≠ 0 ∨ e2 ≠ 0 := by
      rcases hr1 with ⟨h1, _, _, _, rfl, _⟩ | ⟨h1, _⟩
      · rcases hr2 with ⟨h2, _, _, _, rfl, _⟩ | ⟨h2, _⟩
        · simp [h1, h2] at hc
        · exact .inr h2
      · exact .inl h1
    try (first | refine gl tb ?_ | refine gg tb ?_ | refine ll tb ?_ | refine lg tb ?_); repeat ((first | refine G.condT rfl ?_ | refine G.condF rfl ?_ | refine sFa tb ?_ | refine sLd tb ?_ | refine sLa tb ?_ | refine sLen tb ?_ | refine sFd tb ?_ | refine sBd tb ?_ | refine sBa tb ?_); try (first | refine gl tb ?_ | refine gg tb ?_ | refine ll tb ?_ | refine lg tb ?_))
    refine sCallx c13 (fun hc => wakes_ok W2 hT2) ?_
    intro W3 hx3
    try (first | refine gl tb ?_ | refine gg tb ?_ | refine ll tb ?_ | refine lg tb ?_); repeat ((first | refine G.condT rfl ?_ | refine G.condF rfl ?_ | refine sFa tb ?_ | refine sLd tb ?_ | refine sLa tb ?_ | refine sLen tb ?_ | refine sFd tb ?_ | refine sBd tb ?_ | refine sBa tb ?_); try (first | refine gl tb ?_ | refine gg tb ?_ | refine ll tb ?_ | refine lg tb ?_))
    refine G.ret1 rfl rfl rfl rfl ?_
    refine ⟨?_, (hx1.trans hx2).trans hx3⟩
    rcases hee with h | h <;> simp [h]
  have hee : e1 = 0 ∧ e2 = 0 := by
    simp only [Bool.or_eq_false_iff, Bool.not_eq_false', decide_eq_true_eq] at hc
    exact ⟨hc.1.1.1, hc.1.1.2⟩
  obtain ⟨rfl, rfl⟩ := hee
  clear hc
  obtain ⟨-, ta, ga, pa, rfl, hca, hEa⟩ | ⟨h, _⟩ := hr1
  rotate_left
  · exact absurd rfl h
  obtain ⟨-, tb', gb, pb, rfl, hcb, hEb⟩ | ⟨h, _⟩ := hr2
  rotate_left
  · exact absurd rfl h
  have hra := (Rx.comp_ok hca).1
  have hrb := (Rx.comp_ok hcb).1
  have hEa := hEa.to hx2
  try (first | refine gl tb ?_ | refine gg tb ?_ | refine ll tb ?_ | refine lg tb ?_); repeat ((first | refine G.condT rfl ?_ | refine G.condF rfl ?_ | refine sFa tb ?_ | refine sLd tb ?_ | refine sLa tb ?_ | refine sLen tb ?_ | refine sFd tb ?_ | refine sBd tb ?_ | refine sBa tb ?_); try (first | refine gl tb ?_ | refine gg tb ?_ | refine ll tb ?_ | refine lg tb ?_))
  refine sCat tb ?_
  try (first | refine gl tb ?_ | refine gg tb ?_ | refine ll tb ?_ | refine lg tb ?_); repeat ((first | refine G.condT rfl ?_ | refine G.condF rfl ?_ | refine sFa tb ?_ | refine sLd tb ?_ | refine sLa tb ?_ | refine sLen tb ?_ | refine sFd tb ?_ | refine sBd tb ?_ | refine sBa tb ?_); try (first | refine gl tb ?_ | refine gg tb ?_ | refine ll tb ?_ | refine lg tb ?_))
  refine sCat tb ?_
  try (first | refine gl tb ?_ | refine gg tb ?_ | refine ll tb ?_ | refine lg tb ?_); repeat ((first | refine G.condT rfl ?_ | refine G.condF rfl ?_ | refine sFa tb ?_ | refine sLd tb ?_ | refine sLa tb ?_ | refine sLen tb ?_ | refine sFd tb ?_ | refine sBd tb ?_ | refine sBa tb ?_); try (first | refine gl tb ?_ | refine gg tb ?_ | refine ll tb ?_ | refine lg tb ?_))
  refine sCat tb ?_
  try (first | refine gl tb ?_ | refine gg tb ?_ | refine ll tb ?_ | refine lg tb ?_); repeat ((first | refine G.condT rfl ?_ | refine G.condF rfl ?_ | refine sFa tb ?_ | refine sLd tb ?_ | refine sLa tb ?_ | refine sLen tb ?_ | refine sFd tb ?_ | refine sBd tb ?_ | refine sBa tb ?_); try (first | refine gl tb ?_ | refine gg tb ?_ | refine ll tb ?_ | refine lg tb ?_))
  refine sCat tb ?_
  try (first | refine gl tb ?_ | refine gg tb ?_ | refine ll tb ?_ | refine lg tb ?_); repeat ((first | refine G.condT rfl ?_ | refine G.condF rfl ?_ | refine sFa tb ?_ | refine sLd tb ?_ | refine sLa tb ?_ | refine sLen tb ?_ | refine sFd tb ?_ | refine sBd tb ?_ | refine sBa tb ?_); try (first | refine gl tb ?_ | refine gg tb ?_ | refine ll tb ?_ | refine lg tb ?_))
  refine sCall c11 (compU_ok W2 ((([40, 63, 58] ++ a) ++ [41, 124, 40, 63, 58] ++ b) ++ [41]) hT2 (by simp only [List.length_append, List.length_cons, List.length_nil]; omega)) ?_
  rintro _ W3 ⟨hx3, p3, n3, e3, rfl, hr3⟩
  have hT3 := hT2.to hx3
  rw [show ([40, 63, 58] ++ a ++ [41, 124, 40, 63, 58] ++ b ++ [41] : List UInt8) = Rx.th a ++ 124 :: Rx.th b by simp [Rx.th]] at hr3
  obtain ⟨m3, hM3, hm3⟩ := mayM hT3 (fun _ _ h => Rx.either_err hra hrb h) hr3
  clear hr3
  try (first | refine gl tb ?_ | refine gg tb ?_ | refine ll tb ?_ | refine lg tb ?_); repeat ((first | refine G.condT rfl ?_ | refine G.condF rfl ?_ | refine sFa tb ?_ | refine sLd tb ?_ | refine sLa tb ?_ | refine sLen tb ?_ | refine sFd tb ?_ | refine sBd tb ?_ | refine sBa tb ?_); try (first | refine gl tb ?_ | refine gg tb ?_ | refine ll tb ?_ | refine lg tb ?_))
  refine sCat tb ?_
  try (first | refine gl tb ?_ | refine gg tb ?_ | refine ll tb ?_ | refine lg tb ?_); repeat ((first | refine G.condT rfl ?_ | refine G.condF rfl ?_ | refine sFa tb ?_ | refine sLd tb ?_ | refine sLa tb ?_ | refine sLen tb ?_ | refine sFd tb ?_ | refine sBd tb ?_ | refine sBa tb ?_); try (first | refine gl tb ?_ | refine gg tb ?_ | refine ll tb ?_ | refine lg tb ?_))
  refine sCat tb ?_
  try (first | refine gl tb ?_ | refine gg tb ?_ | refine ll tb ?_ | refine lg tb ?_); repeat ((first | refine G.condT rfl ?_ | refine G.condF rfl ?_ | refine sFa tb ?_ | refine sLd tb ?_ | refine sLa tb ?_ | refine sLen tb ?_ | refine sFd tb ?_ | refine sBd tb ?_ | refine sBa tb ?_); try (first | refine gl tb ?_ | refine gg tb ?_ | refine ll tb ?_ | refine lg tb ?_))
  refine sCat tb ?_
  try (first | refine gl tb ?_ | refine gg tb ?_ | refine ll tb ?_ | refine lg tb ?_); repeat ((first | refine G.condT rfl ?_ | refine G.condF rfl ?_ | refine sFa tb ?_ | refine sLd tb ?_ | refine sLa tb ?_ | refine sLen tb ?_ | refine sFd tb ?_ | refine sBd tb ?_ | refine sBa tb ?_); try (first | refine gl tb ?_ | refine gg tb ?_ | refine ll tb ?_ | refine lg tb ?_))
  refine sCat tb ?_
  try (first | refine gl tb ?_ | refine gg tb ?_ | refine ll tb ?_ | refine lg tb ?_); repeat ((first | refine G.condT rfl ?_ | refine G.condF rfl ?_ | refine sFa tb ?_ | refine sLd tb ?_ | refine sLa tb ?_ | refine sLen tb ?_ | refine sFd tb ?_ | refine sBd tb ?_ | refine sBa tb ?_); try (first | refine gl tb ?_ | refine gg tb ?_ | refine ll tb ?_ | refine lg tb ?_))
  refine sCall c11 (compU_ok W3 ((([40, 63, 58] ++ a) ++ [41, 40, 63, 58] ++ b) ++ [41]) hT3 (by simp only [List.length_append, List.length_cons, List.length_nil]; omega)) ?_
  rintro _ W4 ⟨hx4, p4, n4, e4, rfl, hr4⟩
  have hT4 := hT3.to hx4
  rw [show ([40, 63, 58] ++ a ++ [41, 40, 63, 58] ++ b ++ [41] : List UInt8) = Rx.th a ++ Rx.th b by simp [Rx.th]] at hr4
  obtain ⟨m4, hM4, hm4⟩ := mayM hT4 (fun _ _ h => Rx.both_err hra hrb h) hr4
  clear hr4
  have hM3 := hM3.to hx4
  have hEa := (hEa.to hx3).to hx4
  have hEb := (hEb.to hx3).to hx4
  have hx04 := ((hx1.trans hx2).trans hx3).trans hx4
  try (first | refine gl tb ?_ | refine gg tb ?_ | refine ll tb ?_ | refine lg tb ?_); repeat ((first | refine G.condT rfl ?_ | refine G.condF rfl ?_ | refine sFa tb ?_ | refine sLd tb ?_ | refine sLa tb ?_ | refine sLen tb ?_ | refine sFd tb ?_ | refine sBd tb ?_ | refine sBa tb ?_); try (first | refine gl tb ?_ | refine gg tb ?_ | refine ll tb ?_ | refine lg tb ?_))
  first | refine G.condD rfl (fun hc => ?_) (fun hc => ?_) | refine G.condN rfl (fun hc => ?_) (fun hc => ?_) | refine G.cond rfl (fun hc => ?_) (fun hc => ?_)
  · exfalso
    rcases hM3.or_ with rfl | rfl <;> rcases hM4.or_ with rfl | rfl <;> simp at hc
  clear hc
  try (first | refine gl tb ?_ | refine gg tb ?_ | refine ll tb ?_ | refine lg tb ?_); repeat ((first | refine G.condT rfl ?_ | refine G.condF rfl ?_ | refine sFa tb ?_ | refine sLd tb ?_ | refine sLa tb ?_ | refine sLen tb ?_ | refine sFd tb ?_ | refine sBd tb ?_ | refine sBa tb ?_); try (first | refine gl tb ?_ | refine gg tb ?_ | refine ll tb ?_ | refine lg tb ?_))
  refine sCall c14 (cut_ok v ss W4 (hv.to hx04) hz) ?_
  rintro u W5 ⟨hx5, ho5⟩
  have hT5 := hT4.to hx5
  have hM3 := hM3.to hx5
  have hM4 := hM4.to hx5
  have hEa := hEa.to hx5
  have hEb := hEb.to hx5
  have hx05 := hx04.trans hx5
  have ho5 := ho5.sli
  have hsl : ∀ x ∈ cutL ss, x.length ≤ 60 := fun x hx => cutL_len hx
  have hsn : (cutL ss).length ≤ 12 := by unfold cutL; rw [List.length_map, List.length_take]; omega
  generalize cutL ss = xs at ho5 hsl hsn
  clear hv hz
  try (first | refine gl tb ?_ | refine gg tb ?_ | refine ll tb ?_ | refine lg tb ?_); repeat ((first | refine G.condT rfl ?_ | refine G.condF rfl ?_ | refine sFa tb ?_ | refine sLd tb ?_ | refine sLa tb ?_ | refine sLen tb ?_ | refine sFd tb ?_ | refine sBd tb ?_ | refine sBa tb ?_); try (first | refine gl tb ?_ | refine gg tb ?_ | refine ll tb ?_ | refine lg tb ?_))
  refine (G.loop (fun i : Nat => [(0, none, S a), (1, none, S b), (2, none, u), (7, none, ptr pa), (10, none, ptr pb), (13, none, .pointer p3), (15, none, .int .i64 e3), (16, none, .pointer p4), (18, none, .int .i64 e4), (19, none, .int .i64 i)]) (fun i W => Ext W5 W ∧ i ≤ xs.length) (fun i => xs.length - i) 0 (by repeat (first | exact Sub.nil _ | refine Sub.cons rfl ?_)) ⟨Ext.refl _, Nat.zero_le _⟩ ?_)
  rintro i W ⟨hx, hi⟩
  have hu := ho5.to hx
  have hll : (xs.map strC).length = xs.length := by simp
  try (first | refine gl tb ?_ | refine gg tb ?_ | refine ll tb ?_ | refine lg tb ?_); repeat ((first | refine G.condT rfl ?_ | refine G.condF rfl ?_ | refine sFa tb ?_ | refine sLd tb ?_ | refine sLa tb ?_ | refine sLen tb ?_ | refine sFd tb ?_ | refine sBd tb ?_ | refine sBa tb ?_); try (first | refine gl tb ?_ | refine gg tb ?_ | refine ll tb ?_ | refine lg tb ?_))
  rw [hll]
  try (first | refine gl tb ?_ | refine gg tb ?_ | refine ll tb ?_ | refine lg tb ?_); repeat ((first | refine G.condT rfl ?_ | refine G.condF rfl ?_ | refine sFa tb ?_ | refine sLd tb ?_ | refine sLa tb ?_ | refine sLen tb ?_ | refine sFd tb ?_ | refine sBd tb ?_ | refine sBa tb ?_); try (first | refine gl tb ?_ | refine gg tb ?_ | refine ll tb ?_ | refine lg tb ?_))
  first | refine G.condD rfl (fun hc => ?_) (fun hc => ?_) | refine G.condN rfl (fun hc => ?_) (fun hc => ?_) | refine G.cond rfl (fun hc => ?_) (fun hc => ?_)
  rotate_left
  · try (first | refine gl tb ?_ | refine gg tb ?_ | refine ll tb ?_ | refine lg tb ?_); repeat ((first | refine G.condT rfl ?_ | refine G.condF rfl ?_ | refine sFa tb ?_ | refine sLd tb ?_ | refine sLa tb ?_ | refine sLen tb ?_ | refine sFd tb ?_ | refine sBd tb ?_ | refine sBa tb ?_); try (first | refine gl tb ?_ | refine gg tb ?_ | refine ll tb ?_ | refine lg tb ?_))
    refine sCall c13 (wakes_ok W (hT5.to hx)) ?_
    rintro _ W6 ⟨rfl, hx6⟩
    try (first | refine gl tb ?_ | refine gg tb ?_ | refine ll tb ?_ | refine lg tb ?_); repeat ((first | refine G.condT rfl ?_ | refine G.condF rfl ?_ | refine sFa tb ?_ | refine sLd tb ?_ | refine sLa tb ?_ | refine sLen tb ?_ | refine sFd tb ?_ | refine sBd tb ?_ | refine sBa tb ?_); try (first | refine gl tb ?_ | refine gg tb ?_ | refine ll tb ?_ | refine lg tb ?_))
    refine G.ret1 rfl rfl rfl rfl ?_
    exact ⟨rfl, (hx05.trans hx).trans hx6⟩
  have hlt : i < xs.length := by omega
  have hget : (xs.map strC)[i]? = some [S xs[i]] := by rw [List.getElem?_map, List.getElem?_eq_getElem hlt]; rfl
  have hxl := hsl xs[i] (List.getElem_mem hlt)
  generalize xs[i] = x at hget hxl
  try (first | refine gl tb ?_ | refine gg tb ?_ | refine ll tb ?_ | refine lg tb ?_); repeat ((first | refine G.condT rfl ?_ | refine G.condF rfl ?_ | refine sFa tb ?_ | refine sLd tb ?_ | refine sLa tb ?_ | refine sLen tb ?_ | refine sFd tb ?_ | refine sBd tb ?_ | refine sBa tb ?_); try (first | refine gl tb ?_ | refine gg tb ?_ | refine ll tb ?_ | refine lg tb ?_))
  refine G.regionM [(0, true), (1, true), (2, true), (3, true), (4, true), (5, true), (6, true), (7, true), (9, true), (10, true), (11, true), (12, true), (13, true), (8, false), (14, false), (15, true), (16, true), (17, true), (18, true), (19, true), (20, true), (21, false), (22, true), (23, true), (24, true)] (Ext W) (by kernel_rfl) (by kernel_rfl) rfl mixed (Ext.drew W) rfl ?_
  try (refine mm tb ?_); repeat ((first | refine dFa tb ?_ | refine dLd tb ?_ | refine dLa tb ?_ | refine dLen tb ?_ | refine dFd tb ?_); try (refine mm tb ?_))
  refine dIa tb i ?_ (hj := fun _ => ⟨rfl, by rw [hll]; exact hlt⟩)
  try (refine mm tb ?_); repeat ((first | refine dFa tb ?_ | refine dLd tb ?_ | refine dLa tb ?_ | refine dLen tb ?_ | refine dFd tb ?_); try (refine mm tb ?_))
  refine dIa tb i ?_ (hj := fun _ => ⟨rfl, by rw [hll]; exact hlt⟩)
  try (refine mm tb ?_); repeat ((first | refine dFa tb ?_ | refine dLd tb ?_ | refine dLa tb ?_ | refine dLen tb ?_ | refine dFd tb ?_); try (refine mm tb ?_))
  have hxd := Ext.drew W
  have hM3W := (hM3.to hx).to hxd
  have hEaW := (hEa.to hx).to hxd
  have hEbW := (hEb.to hx).to hxd
  have hTW := (hT5.to hx).to hxd
  refine GM.eff (Step.callX rfl rfl (by repeat (first | exact OpL.nil | refine OpL.cons (Op1.of rfl (by first | exact fun _ => rfl | exact fun h => h | exact fun h => bL h | exact fun h => bL (bL h) | exact fun h => bL (bL (bL h)))) ?_)) c18 rfl (fun hc => hM3W.run (of_decide_eq_true hc) W.drew (Ext.refl _) x hxl) ?_)
  intro W6 hx6
  refine ⟨hxd.trans hx6, ?_⟩
  try (refine mm tb ?_); repeat ((first | refine dFa tb ?_ | refine dLd tb ?_ | refine dLa tb ?_ | refine dLen tb ?_ | refine dFd tb ?_); try (refine mm tb ?_))
  refine GM.eff (Step.callX rfl rfl (by repeat (first | exact OpL.nil | refine OpL.cons (Op1.of rfl (by first | exact fun _ => rfl | exact fun h => h | exact fun h => bL h | exact fun h => bL (bL h) | exact fun h => bL (bL (bL h)))) ?_)) c18 rfl (fun hc => match_ok W6 pa ta ga x (hTW.to hx6) (hEaW.to hx6) (by omega)) ?_)
  intro W7 hx7
  have hx67 := hx6.trans hx7
  refine ⟨hxd.trans hx67, ?_⟩
  try (refine mm tb ?_); repeat ((first | refine dFa tb ?_ | refine dLd tb ?_ | refine dLa tb ?_ | refine dLen tb ?_ | refine dFd tb ?_); try (refine mm tb ?_))
  refine dIa tb i ?_ (hj := fun _ => ⟨rfl, by rw [hll]; exact hlt⟩)
  try (refine mm tb ?_); repeat ((first | refine dFa tb ?_ | refine dLd tb ?_ | refine dLa tb ?_ | refine dLen tb ?_ | refine dFd tb ?_); try (refine mm tb ?_))
  refine GM.eff (Step.callX rfl rfl (by repeat (first | exact OpL.nil | refine OpL.cons (Op1.of rfl (by first | exact fun _ => rfl | exact fun h => h | exact fun h => bL h | exact fun h => bL (bL h) | exact fun h => bL (bL (bL h)))) ?_)) c18 rfl (fun hc => match_ok W7 pb tb' gb x (hTW.to hx67) (hEbW.to hx67) (by omega)) ?_)
  intro W8 hx8
  have hx68 := hx67.trans hx8
  refine ⟨hxd.trans hx68, ?_⟩
  try (refine mm tb ?_); repeat ((first | refine dFa tb ?_ | refine dLd tb ?_ | refine dLa tb ?_ | refine dLen tb ?_ | refine dFd tb ?_); try (refine mm tb ?_))
  refine GM.nil ?_
  have hxW := (hx.trans hxd).trans hx68
  first | refine G.condD rfl (fun hc => ?_) (fun hc => ?_) | refine G.condN rfl (fun hc => ?_) (fun hc => ?_) | refine G.cond rfl (fun hc => ?_) (fun hc => ?_)
  · exfalso
    rcases hM3.or_ with rfl | rfl
    · obtain ⟨t, g, h1, h2⟩ := hm3 rfl
      have := Rx.law_either hra hrb h1 x
      rw [h2, this] at hc
      simp at hc
    · simp at hc
  clear hc
  try (first | refine gl tb ?_ | refine gg tb ?_ | refine ll tb ?_ | refine lg tb ?_); repeat ((first | refine G.condT rfl ?_ | refine G.condF rfl ?_ | refine sFa tb ?_ | refine sLd tb ?_ | refine sLa tb ?_ | refine sLen tb ?_ | refine sFd tb ?_ | refine sBd tb ?_ | refine sBa tb ?_); try (first | refine gl tb ?_ | refine gg tb ?_ | refine ll tb ?_ | refine lg tb ?_))
  have hu8 := ho5.to hxW
  clear hu hEaW hEbW hTW hM3W
  refine G.regionM [(0, true), (1, true), (2, true), (3, true), (4, false), (5, true), (6, true), (7, true), (8, true), (9, false), (10, true), (11, true), (12, true), (13, true), (14, true), (15, true), (16, true), (17, true), (19, true), (20, true), (21, true), (22, true), (23, true), (24, true), (18, false), (25, false), (26, true), (27, true)] (Ext W8) (by kernel_rfl) (by kernel_rfl) rfl mixed (Ext.drew W8) rfl ?_
  try (refine mm tb ?_); repeat ((first | refine dFa tb ?_ | refine dLd tb ?_ | refine dLa tb ?_ | refine dLen tb ?_ | refine dFd tb ?_); try (refine mm tb ?_))
  have hxd := Ext.drew W8
  have hM4W := (hM4.to hxW).to hxd
  have hEaW := (hEa.to hxW).to hxd
  have hEbW := (hEb.to hxW).to hxd
  have hTW := (hT5.to hxW).to hxd
  refine GM.eff (Step.callX rfl rfl (by repeat (first | exact OpL.nil | refine OpL.cons (Op1.of rfl (by first | exact fun _ => rfl | exact fun h => h | exact fun h => bL h | exact fun h => bL (bL h) | exact fun h => bL (bL (bL h)))) ?_)) c20 rfl (fun hc => anchored_ok a W8.drew (by omega)) ?_)
  intro W9 hx9
  refine ⟨hxd.trans hx9, ?_⟩
  try (refine mm tb ?_); repeat ((first | refine dFa tb ?_ | refine dLd tb ?_ | refine dLa tb ?_ | refine dLen tb ?_ | refine dFd tb ?_); try (refine mm tb ?_))
  refine GM.eff (Step.callX rfl rfl (by repeat (first | exact OpL.nil | refine OpL.cons (Op1.of rfl (by first | exact fun _ => rfl | exact fun h => h | exact fun h => bL h | exact fun h => bL (bL h) | exact fun h => bL (bL (bL h)))) ?_)) c20 rfl (fun hc => anchored_ok b W9 (by omega)) ?_)
  intro W10 hx10
  have hx910 := hx9.trans hx10
  refine ⟨hxd.trans hx910, ?_⟩
  try (refine mm tb ?_); repeat ((first | refine dFa tb ?_ | refine dLd tb ?_ | refine dLa tb ?_ | refine dLen tb ?_ | refine dFd tb ?_); try (refine mm tb ?_))
  refine dIa tb i ?_ (hj := fun _ => ⟨rfl, by rw [hll]; exact hlt⟩)
  try (refine mm tb ?_); repeat ((first | refine dFa tb ?_ | refine dLd tb ?_ | refine dLa tb ?_ | refine dLen tb ?_ | refine dFd tb ?_); try (refine mm tb ?_))
  refine dIa tb i ?_ (hj := fun _ => ⟨rfl, by rw [hll]; exact hlt⟩)
  try (refine mm tb ?_); repeat ((first | refine dFa tb ?_ | refine dLd tb ?_ | refine dLa tb ?_ | refine dLen tb ?_ | refine dFd tb ?_); try (refine mm tb ?_))
  have hce : ∀ {c : Bool}, (decide (e4 = 0) && c) = true → e4 = 0 := fun {c} h => by
    rw [Bool.and_eq_true, decide_eq_true_eq] at h
    exact h.1
  refine GM.eff (Step.callX rfl rfl (by repeat (first | exact OpL.nil | refine OpL.cons (Op1.of rfl (by first | exact fun _ => rfl | exact fun h => h | exact fun h => bL h | exact fun h => bL (bL h) | exact fun h => bL (bL (bL h)))) ?_)) c18 rfl (fun hc => hM4W.run (hce (bL hc)) W10 hx910 x hxl) ?_)
  intro W11 hx11
  have hx911 := hx910.trans hx11
  refine ⟨hxd.trans hx911, ?_⟩
  try (refine mm tb ?_); repeat ((first | refine dFa tb ?_ | refine dLd tb ?_ | refine dLa tb ?_ | refine dLen tb ?_ | refine dFd tb ?_); try (refine mm tb ?_))
  refine GM.eff (Step.callX rfl rfl (by repeat (first | exact OpL.nil | refine OpL.cons (Op1.of rfl (by first | exact fun _ => rfl | exact fun h => h | exact fun h => bL h | exact fun h => bL (bL h) | exact fun h => bL (bL (bL h)))) ?_)) c21 rfl (fun hc => cuts_ok W11 pa pb ta tb' ga gb x (hTW.to hx911) (hEaW.to hx911) (hEbW.to hx911) hxl) ?_)
  intro W12 hx12
  have hx912 := hx911.trans hx12
  refine ⟨hxd.trans hx912, ?_⟩
  try (refine mm tb ?_); repeat ((first | refine dFa tb ?_ | refine dLd tb ?_ | refine dLa tb ?_ | refine dLen tb ?_ | refine dFd tb ?_); try (refine mm tb ?_))
  refine GM.nil ?_
  have hxE := (hxW.trans hxd).trans hx912
  first | refine G.condD rfl (fun hc => ?_) (fun hc => ?_) | refine G.condN rfl (fun hc => ?_) (fun hc => ?_) | refine G.cond rfl (fun hc => ?_) (fun hc => ?_)
  · exfalso
    rcases hM4.or_ with rfl | rfl
    · obtain ⟨t, g, h1, h2⟩ := hm4 rfl
      cases ha : Rx.anch a
      · cases hb : Rx.anch b
        · have := Rx.law_both hra hrb h1 ha hb x
          rw [h2, this] at hc
          simp [ha, hb] at hc
        · simp [ha, hb] at hc
      · simp [ha] at hc
    · simp at hc
  clear hc
  try (first | refine gl tb ?_ | refine gg tb ?_ | refine ll tb ?_ | refine lg tb ?_); repeat ((first | refine G.condT rfl ?_ | refine G.condF rfl ?_ | refine sFa tb ?_ | refine sLd tb ?_ | refine sLa tb ?_ | refine sLen tb ?_ | refine sFd tb ?_ | refine sBd tb ?_ | refine sBa tb ?_); try (first | refine gl tb ?_ | refine gg tb ?_ | refine ll tb ?_ | refine lg tb ?_))
  refine sAd tb (r := ((i + 1 : Nat) : Int)) ?_
  try (first | refine gl tb ?_ | refine gg tb ?_ | refine ll tb ?_ | refine lg tb ?_); repeat ((first | refine G.condT rfl ?_ | refine G.condF rfl ?_ | refine sFa tb ?_ | refine sLd tb ?_ | refine sLa tb ?_ | refine sLen tb ?_ | refine sFd tb ?_ | refine sBd tb ?_ | refine sBa tb ?_); try (first | refine gl tb ?_ | refine gg tb ?_ | refine ll tb ?_ | refine lg tb ?_))
  exact G.lp (x := i) (i + 1) (by repeat (first | exact Sub.nil _ | refine Sub.cons rfl ?_)) ⟨hxE, by omega⟩ (by omega)
end Go.Proofs.YtbpkhgehchelhaaDoor
