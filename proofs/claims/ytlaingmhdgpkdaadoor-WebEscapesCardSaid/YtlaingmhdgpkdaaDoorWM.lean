/- vigillaw17: a number in digits, walked. -/
import Derived.Test.YtlaingmhdgpkdaaDoorWL
open Go Go.Vg Go.RowKit Go.Proofs Go.Proofs.YtlaingmhdgpkdaaDoor
namespace Go.Proofs.YtlaingmhdgpkdaaDoor
set_option linter.unusedSimpArgs false

def digF : Nat → Nat → List UInt8
  | 0, n => [byI (48 + (n : Int))]
  | f + 1, n => if n < 10 then [byI (48 + (n : Int))] else digF f (n / 10) ++ [byI (48 + ((n % 10 : Nat) : Int))]
theorem digF_len : ∀ (f n : Nat), (digF f n).length ≤ f + 1
  | 0, n => by simp [digF]
  | f + 1, n => by
    simp only [digF]
    split
    · simp
    · have := digF_len f (n / 10)
      rw [List.length_append, List.length_cons, List.length_nil]; omega
theorem digits_step (n : Nat) (D : List UInt8) (w : World) (hn2 : n ≤ 9000000000000000000) (hl : D.length ≤ 100) (hD : 10 ≤ n → ∀ w : World, Ret Tryd.prog 8 ⟨[.int .i64 ((n / 10 : Nat) : Int)]⟩ w fun r w' => r = S D ∧ Ext w w') :
    Ret Tryd.prog 8 ⟨[.int .i64 n]⟩ w fun r w' => r = S (if n < 10 then [byI (48 + (n : Int))] else D ++ [byI (48 + ((n % 10 : Nat) : Int))]) ∧ Ext w w' := by
  refine ret_of_G Tryd.func8 rfl Tryd.ntmps8 rfl ?_
  simp only [argEnv]
  try (first | refine gl tb ?_ | refine gg tb ?_ | refine ll tb ?_ | refine lg tb ?_); repeat ((first | refine G.condT rfl ?_ | refine G.condF rfl ?_ | refine sFa tb ?_ | refine sLd tb ?_ | refine sLa tb ?_ | refine sLen tb ?_ | refine sFd tb ?_ | refine sBd tb ?_ | refine sBa tb ?_); try (first | refine gl tb ?_ | refine gg tb ?_ | refine ll tb ?_ | refine lg tb ?_))
  first | refine G.condD rfl (fun hc => ?_) (fun hc => ?_) | refine G.condN rfl (fun hc => ?_) (fun hc => ?_) | refine G.cond rfl (fun hc => ?_) (fun hc => ?_)
  · rw [if_pos (by omega)]
    try (first | refine gl tb ?_ | refine gg tb ?_ | refine ll tb ?_ | refine lg tb ?_); repeat ((first | refine G.condT rfl ?_ | refine G.condF rfl ?_ | refine sFa tb ?_ | refine sLd tb ?_ | refine sLa tb ?_ | refine sLen tb ?_ | refine sFd tb ?_ | refine sBd tb ?_ | refine sBa tb ?_); try (first | refine gl tb ?_ | refine gg tb ?_ | refine ll tb ?_ | refine lg tb ?_))
    refine sAd tb ?_
    refine sCb tb ?_
    refine sBs' tb (bysC [byI (48 + (n : Int))]) ?_ (hkl := bysC_k _)
    intro v1 w1 ho1 hs1 hx1
    refine sByS tb ho1.sli ?_
    try (first | refine gl tb ?_ | refine gg tb ?_ | refine ll tb ?_ | refine lg tb ?_); repeat ((first | refine G.condT rfl ?_ | refine G.condF rfl ?_ | refine sFa tb ?_ | refine sLd tb ?_ | refine sLa tb ?_ | refine sLen tb ?_ | refine sFd tb ?_ | refine sBd tb ?_ | refine sBa tb ?_); try (first | refine gl tb ?_ | refine gg tb ?_ | refine ll tb ?_ | refine lg tb ?_))
    refine G.ret1 rfl rfl rfl rfl ?_
    exact ⟨rfl, hx1⟩
  · rw [if_neg (by omega)]
    have hD := hD (by omega)
    try (first | refine gl tb ?_ | refine gg tb ?_ | refine ll tb ?_ | refine lg tb ?_); repeat ((first | refine G.condT rfl ?_ | refine G.condF rfl ?_ | refine sFa tb ?_ | refine sLd tb ?_ | refine sLa tb ?_ | refine sLen tb ?_ | refine sFd tb ?_ | refine sBd tb ?_ | refine sBa tb ?_); try (first | refine gl tb ?_ | refine gg tb ?_ | refine ll tb ?_ | refine lg tb ?_))
    refine G.regionG (Ext w) mixed (Ext.drew w) ?_
    have hx0 := Ext.drew w
    generalize w.drew = w0 at hx0 ⊢
    refine GD.steps ([(0, true), (1, true), (3, true), (4, true), (5, true), (6, true)]) (by kernel_rfl) (by kernel_rfl) rfl ?_
    try (refine mm tb ?_); repeat ((first | refine dFa tb ?_ | refine dLd tb ?_ | refine dLa tb ?_ | refine dLen tb ?_ | refine dFd tb ?_); try (refine mm tb ?_))
    refine GM.read (fun w' hS => Step.quo (r := ((n / 10 : Nat) : Int)) rfl (Op1.of rfl (by first | exact fun _ => rfl | exact fun h => h | exact fun h => bL h | exact fun h => bL (bL h) | exact fun h => bL (bL (bL h)))) (Op1.of rfl (by first | exact fun _ => rfl | exact fun h => h | exact fun h => bL h | exact fun h => bL (bL h) | exact fun h => bL (bL (bL h)))) (fun _ => by omega) (by rw [show ((n : Int).tdiv 10) = ((n / 10 : Nat) : Int) from rfl]; exact wrap_i64 (by omega) (by omega)) rfl ⟨rfl, rfl⟩) rfl rfl ?_
    try (refine mm tb ?_); repeat ((first | refine dFa tb ?_ | refine dLd tb ?_ | refine dLa tb ?_ | refine dLen tb ?_ | refine dFd tb ?_); try (refine mm tb ?_))
    refine GM.read (fun w' hS => Step.rem (r := ((n % 10 : Nat) : Int)) rfl (Op1.of rfl (by first | exact fun _ => rfl | exact fun h => h | exact fun h => bL h | exact fun h => bL (bL h) | exact fun h => bL (bL (bL h)))) (Op1.of rfl (by first | exact fun _ => rfl | exact fun h => h | exact fun h => bL h | exact fun h => bL (bL h) | exact fun h => bL (bL (bL h)))) (fun _ => by omega) rfl rfl ⟨rfl, rfl⟩) rfl rfl ?_
    refine dAd tb ?_
    refine dCb tb ?_
    refine GM.nil ?_
    refine GD.two (2) (7) (by kernel_rfl) (by kernel_rfl) rfl rfl ?_ ?_
    · refine (Step.callF rfl rfl rfl c8 rfl (hD w0) ?_)
      rintro _ w1 ⟨rfl, hx1⟩
      have hx1 := hx0.trans hx1
      refine ⟨hx1, ?_⟩
      refine GD.steps ([(7, false), (8, false), (9, true), (10, true)]) (by kernel_rfl) (by kernel_rfl) rfl ?_
      refine GM.eff (Step.buildSlice tb ((bysC [byI (48 + ((n % 10 : Nat) : Int))])) rfl rfl rfl rfl rfl rfl (by rfl) rfl (by rfl) (by rfl) (by rfl) (bysC_k _) rfl ?_)
      intro v1 w2 ho1 hs1 hx2
      have hx2 := hx1.trans hx2
      refine ⟨hx2, ?_⟩
      refine GM.eff (Step.bytesS tb rfl (Op1.of rfl (by first | exact fun _ => rfl | exact fun h => h | exact fun h => bL h | exact fun h => bL (bL h) | exact fun h => bL (bL (bL h)))) rfl rfl rfl (fun _ => ho1.sli) rfl ⟨hx2, ?_⟩)
      refine dCat tb ?_
      try (refine mm tb ?_); repeat ((first | refine dFa tb ?_ | refine dLd tb ?_ | refine dLa tb ?_ | refine dLen tb ?_ | refine dFd tb ?_); try (refine mm tb ?_))
      refine GM.nil ?_
      refine GD.done (by kernel_rfl) ?_
      try (first | refine gl tb ?_ | refine gg tb ?_ | refine ll tb ?_ | refine lg tb ?_); repeat ((first | refine G.condT rfl ?_ | refine G.condF rfl ?_ | refine sFa tb ?_ | refine sLd tb ?_ | refine sLa tb ?_ | refine sLen tb ?_ | refine sFd tb ?_ | refine sBd tb ?_ | refine sBa tb ?_); try (first | refine gl tb ?_ | refine gg tb ?_ | refine ll tb ?_ | refine lg tb ?_))
      refine G.ret1 rfl rfl rfl rfl ?_
      exact ⟨rfl, hx2⟩
    · refine (Step.buildSlice tb ((bysC [byI (48 + ((n % 10 : Nat) : Int))])) rfl rfl rfl rfl rfl rfl (by rfl) rfl (by rfl) (by rfl) (by rfl) (bysC_k _) rfl ?_)
      intro v1 w1 ho1 hs1 hx1
      have hx1 := hx0.trans hx1
      refine ⟨hx1, ?_⟩
      refine GD.two (2) (8) (by kernel_rfl) (by kernel_rfl) rfl rfl ?_ ?_
      · refine (Step.callF rfl rfl rfl c8 rfl (hD w1) ?_)
        rintro _ w2 ⟨rfl, hx2⟩
        have ho2 := ho1.to hx2
        have hx2 := hx1.trans hx2
        refine ⟨hx2, ?_⟩
        refine GD.steps ([(8, false), (9, true), (10, true)]) (by kernel_rfl) (by kernel_rfl) rfl ?_
        refine GM.eff (Step.bytesS tb rfl (Op1.of rfl (by first | exact fun _ => rfl | exact fun h => h | exact fun h => bL h | exact fun h => bL (bL h) | exact fun h => bL (bL (bL h)))) rfl rfl rfl (fun _ => ho2.sli) rfl ⟨hx2, ?_⟩)
        refine dCat tb ?_
        try (refine mm tb ?_); repeat ((first | refine dFa tb ?_ | refine dLd tb ?_ | refine dLa tb ?_ | refine dLen tb ?_ | refine dFd tb ?_); try (refine mm tb ?_))
        refine GM.nil ?_
        refine GD.done (by kernel_rfl) ?_
        try (first | refine gl tb ?_ | refine gg tb ?_ | refine ll tb ?_ | refine lg tb ?_); repeat ((first | refine G.condT rfl ?_ | refine G.condF rfl ?_ | refine sFa tb ?_ | refine sLd tb ?_ | refine sLa tb ?_ | refine sLen tb ?_ | refine sFd tb ?_ | refine sBd tb ?_ | refine sBa tb ?_); try (first | refine gl tb ?_ | refine gg tb ?_ | refine ll tb ?_ | refine lg tb ?_))
        refine G.ret1 rfl rfl rfl rfl ?_
        exact ⟨rfl, hx2⟩
      · refine (Step.bytesS tb rfl (Op1.of rfl (by first | exact fun _ => rfl | exact fun h => h | exact fun h => bL h | exact fun h => bL (bL h) | exact fun h => bL (bL (bL h)))) rfl rfl rfl (fun _ => ho1.sli) rfl ⟨hx1, ?_⟩)
        refine GD.steps ([(2, false), (9, true), (10, true)]) (by kernel_rfl) (by kernel_rfl) rfl ?_
        refine GM.eff (Step.callF rfl rfl rfl c8 rfl (hD w1) ?_)
        rintro _ w2 ⟨rfl, hx2⟩
        have hx2 := hx1.trans hx2
        refine ⟨hx2, ?_⟩
        refine dCat tb ?_
        try (refine mm tb ?_); repeat ((first | refine dFa tb ?_ | refine dLd tb ?_ | refine dLa tb ?_ | refine dLen tb ?_ | refine dFd tb ?_); try (refine mm tb ?_))
        refine GM.nil ?_
        refine GD.done (by kernel_rfl) ?_
        try (first | refine gl tb ?_ | refine gg tb ?_ | refine ll tb ?_ | refine lg tb ?_); repeat ((first | refine G.condT rfl ?_ | refine G.condF rfl ?_ | refine sFa tb ?_ | refine sLd tb ?_ | refine sLa tb ?_ | refine sLen tb ?_ | refine sFd tb ?_ | refine sBd tb ?_ | refine sBa tb ?_); try (first | refine gl tb ?_ | refine gg tb ?_ | refine ll tb ?_ | refine lg tb ?_))
        refine G.ret1 rfl rfl rfl rfl ?_
        exact ⟨rfl, hx2⟩

theorem digits_ok : ∀ (f n : Nat), n < 10 ^ (f + 1) → n ≤ 9000000000000000000 → f ≤ 30 → ∀ w : World,
    Ret Tryd.prog 8 ⟨[.int .i64 n]⟩ w fun r w' => r = S (digF f n) ∧ Ext w w'
  | 0, n, hn, hn2, _, w => by
    have := digits_step n [] w hn2 (by simp) (fun h => by omega)
    rw [if_pos (by omega)] at this
    exact this
  | f + 1, n, hn, hn2, hf, w => by
    have hl := digF_len f (n / 10)
    exact digits_step n (digF f (n / 10)) w hn2 (by omega) (fun _ w => digits_ok f (n / 10) (by rw [Nat.pow_succ] at hn; exact Nat.div_lt_of_lt_mul (by rw [Nat.mul_comm]; exact hn)) (by omega) (by omega) w)
end Go.Proofs.YtlaingmhdgpkdaaDoor
