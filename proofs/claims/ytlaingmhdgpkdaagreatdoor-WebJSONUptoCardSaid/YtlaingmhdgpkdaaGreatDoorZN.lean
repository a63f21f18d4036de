/- num.IntText, walked. -/
import Derived.Test.YtlaingmhdgpkdaaGreatDoorZM
import Derived.Test.YtlaingmhdgpkdaaGreatDoorV26
open Go Go.Vg Go.RowKit Go.Proofs Go.Proofs.YtlaingmhdgpkdaaGreatDoor
namespace Go.Proofs.YtlaingmhdgpkdaaGreatDoor
set_option linter.unusedSimpArgs false

/-- a number in decimal digits, at most so many -/
def decN (n : Int) : List UInt8 := if n < 0 then 45 :: digF 19 n.natAbs else digF 19 n.natAbs
theorem digF_fuel : ∀ (f n : Nat), n < 10 ^ (f + 1) → digF (f + 1) n = digF f n
  | 0, n, h => by simp only [digF]; rw [if_pos (by omega)]
  | f + 1, n, h => by
    have ih := digF_fuel f (n / 10) (by rw [Nat.pow_succ] at h; exact Nat.div_lt_of_lt_mul (by rw [Nat.mul_comm]; exact h))
    have e1 : digF (f + 2) n = if n < 10 then [byI (48 + (n : Int))] else digF (f + 1) (n / 10) ++ [byI (48 + ((n % 10 : Nat) : Int))] := rfl
    have e2 : digF (f + 1) n = if n < 10 then [byI (48 + (n : Int))] else digF f (n / 10) ++ [byI (48 + ((n % 10 : Nat) : Int))] := rfl
    rw [e1, e2, ih]
theorem digF_step (n : Nat) (h : n < 10 ^ 20) : digF 19 n = if n < 10 then [byI (48 + (n : Int))] else digF 19 (n / 10) ++ [byI (48 + ((n % 10 : Nat) : Int))] := by
  have h2 : n / 10 < 10 ^ 19 := Nat.div_lt_of_lt_mul (by rw [show 10 * 10 ^ 19 = 10 ^ 20 by decide]; exact h)
  rw [digF_fuel 18 (n / 10) h2]
  rfl
theorem wrap_u64m (n : Int) : IntKind.u64.wrap n = n % 18446744073709551616 := rfl
theorem intText_ok (n : Int) (w : World) (h1 : -9223372036854775808 ≤ n) (h2 : n ≤ 9223372036854775807) :
    Ret Tryz.prog 35 ⟨[.int .i64 n]⟩ w fun r w' => r = S (decN n) ∧ Ext w w' := by
  refine ret_of_G Tryz.func35 rfl Tryz.ntmps35 rfl ?_
  simp only [argEnv]
  try (first | refine gl tb ?_ | refine gg tb ?_ | refine ll tb ?_ | refine lg tb ?_); repeat ((first | refine G.condT rfl ?_ | refine G.condF rfl ?_ | refine sFa tb ?_ | refine sLd tb ?_ | refine sLa tb ?_ | refine sLen tb ?_ | refine sFd tb ?_ | refine sBd tb ?_ | refine sBa tb ?_); try (first | refine gl tb ?_ | refine gg tb ?_ | refine ll tb ?_ | refine lg tb ?_))
  refine sCv tb (r := n % 18446744073709551616) ?_ (hr := rfl)
  try (first | refine gl tb ?_ | refine gg tb ?_ | refine ll tb ?_ | refine lg tb ?_); repeat ((first | refine G.condT rfl ?_ | refine G.condF rfl ?_ | refine sFa tb ?_ | refine sLd tb ?_ | refine sLa tb ?_ | refine sLen tb ?_ | refine sFd tb ?_ | refine sBd tb ?_ | refine sBa tb ?_); try (first | refine gl tb ?_ | refine gg tb ?_ | refine ll tb ?_ | refine lg tb ?_))
  obtain ⟨N, hN⟩ : ∃ N, N = n.natAbs := ⟨_, rfl⟩
  have hN9 : N ≤ 9223372036854775808 := by omega
  refine G.join (fun _ : Unit => [(0, none, .int .i64 n), (3, none, .int .u64 (N : Int))]) (fun _ w' => w' = w) ?_ ?_
  · rintro _ w_ rfl
    try (first | refine gl tb ?_ | refine gg tb ?_ | refine ll tb ?_ | refine lg tb ?_); repeat ((first | refine G.condT rfl ?_ | refine G.condF rfl ?_ | refine sFa tb ?_ | refine sLd tb ?_ | refine sLa tb ?_ | refine sLen tb ?_ | refine sFd tb ?_ | refine sBd tb ?_ | refine sBa tb ?_); try (first | refine gl tb ?_ | refine gg tb ?_ | refine ll tb ?_ | refine lg tb ?_))
    refine sAl tb ?_
    intro w1 hb1 hs1 hx1
    try (first | refine gl tb ?_ | refine gg tb ?_ | refine ll tb ?_ | refine lg tb ?_); repeat ((first | refine G.condT rfl ?_ | refine G.condF rfl ?_ | refine sFa tb ?_ | refine sLd tb ?_ | refine sLa tb ?_ | refine sLen tb ?_ | refine sFd tb ?_ | refine sBd tb ?_ | refine sBa tb ?_); try (first | refine gl tb ?_ | refine gg tb ?_ | refine ll tb ?_ | refine lg tb ?_))
    refine (G.loop (fun x : Nat × Nat × Bool => [(0, none, .int .i64 n), (3, none, .int .u64 (x.2.1 : Int)), (4, none, ptr w_.heap.size), (5, none, .int .i64 x.1), (6, none, .bool x.2.2)])
      (fun x W => Ext w_ W ∧ x.1 ≤ 20 ∧ (x.2.1 < 10 ^ x.1) ∧ x.2.1 ≤ N ∧ (x.2.2 = true → x.1 = 20 ∧ x.2.1 = N) ∧ (x.2.2 = false → x.1 < 20) ∧ ∃ arr suf, Bx W w_.heap.size arr ∧ arr.length = 20 ∧ arr.drop x.1 = suf.map U ∧ (if x.2.2 = true ∨ 0 < x.2.1 then digF 19 x.2.1 ++ suf else suf) = digF 19 N)
      (fun x => if x.2.2 = true then x.2.1 + 21 else x.2.1) (20, N, true) (by repeat (first | exact Sub.nil _ | refine Sub.cons rfl ?_)) ⟨hx1, by simp, by simp only; omega, Nat.le_refl _, fun _ => ⟨rfl, rfl⟩, (fun h => by cases h), _, [], hb1, rfl, rfl, by simp⟩ ?_)
    rintro ⟨at_, u, first⟩ W ⟨hx, hat, hu, huN, hf, hf2, arr, suf, hb, hal, hsuf, hdig⟩
    simp only at hat hu huN hf hf2 hb hal hsuf hdig ⊢
    try (first | refine gl tb ?_ | refine gg tb ?_ | refine ll tb ?_ | refine lg tb ?_); repeat ((first | refine G.condT rfl ?_ | refine G.condF rfl ?_ | refine sFa tb ?_ | refine sLd tb ?_ | refine sLa tb ?_ | refine sLen tb ?_ | refine sFd tb ?_ | refine sBd tb ?_ | refine sBa tb ?_); try (first | refine gl tb ?_ | refine gg tb ?_ | refine ll tb ?_ | refine lg tb ?_))
    first | refine G.condD rfl (fun hc => ?_) (fun hc => ?_) | refine G.condN rfl (fun hc => ?_) (fun hc => ?_) | refine G.cond rfl (fun hc => ?_) (fun hc => ?_)
    · have hgo : first = true ∨ 0 < u := by
        cases first with
        | true => exact .inl rfl
        | false => right; simpa using hc
      rw [if_pos hgo] at hdig
      have hat1 : 1 ≤ at_ := by
        rcases hgo with h | h
        · have := (hf h).1; omega
        · apply Classical.byContradiction
          intro h0
          have h00 : at_ = 0 := by omega
          rw [h00] at hu
          simp at hu; omega
      have hu20 : u < 10 ^ 20 := Nat.lt_of_lt_of_le hu (Nat.pow_le_pow_right (by omega) hat)
      have hstep := digF_step u hu20
      try (first | refine gl tb ?_ | refine gg tb ?_ | refine ll tb ?_ | refine lg tb ?_); repeat ((first | refine G.condT rfl ?_ | refine G.condF rfl ?_ | refine sFa tb ?_ | refine sLd tb ?_ | refine sLa tb ?_ | refine sLen tb ?_ | refine sFd tb ?_ | refine sBd tb ?_ | refine sBa tb ?_); try (first | refine gl tb ?_ | refine gg tb ?_ | refine ll tb ?_ | refine lg tb ?_))
      refine sAr (r := ((at_ - 1 : Nat) : Int)) ?_ (hp := (wrap_i64 (by omega) (by omega)).trans (by omega))
      try (first | refine gl tb ?_ | refine gg tb ?_ | refine ll tb ?_ | refine lg tb ?_); repeat ((first | refine G.condT rfl ?_ | refine G.condF rfl ?_ | refine sFa tb ?_ | refine sLd tb ?_ | refine sLa tb ?_ | refine sLen tb ?_ | refine sFd tb ?_ | refine sBd tb ?_ | refine sBa tb ?_); try (first | refine gl tb ?_ | refine gg tb ?_ | refine ll tb ?_ | refine lg tb ?_))
      refine sRem (r := ((u % 10 : Nat) : Int)) rfl ?_
      refine sAr (r := 48 + ((u % 10 : Nat) : Int)) ?_ (hp := wrap_u64 (by omega) (by omega))
      refine sCb tb ?_
      refine sIaA tb (at_ - 1) ?_ (hj := fun _ => ⟨rfl, by omega⟩)
      refine sSf tb ?_ (off := (at_ - 1) * 1) (hb := hb) (hl := by omega)
      intro W1 hb1 hw1
      have hx1 : Ext w_ W1 := Below.wr hx hw1 (Nat.le_refl _)
      try (first | refine gl tb ?_ | refine gg tb ?_ | refine ll tb ?_ | refine lg tb ?_); repeat ((first | refine G.condT rfl ?_ | refine G.condF rfl ?_ | refine sFa tb ?_ | refine sLd tb ?_ | refine sLa tb ?_ | refine sLen tb ?_ | refine sFd tb ?_ | refine sBd tb ?_ | refine sBa tb ?_); try (first | refine gl tb ?_ | refine gg tb ?_ | refine ll tb ?_ | refine lg tb ?_))
      refine sQuo (r := ((u / 10 : Nat) : Int)) (by rw [show ((u : Int).tdiv 10) = ((u / 10 : Nat) : Int) from rfl]; exact wrap_u64 (by omega) (by omega)) ?_
      try (first | refine gl tb ?_ | refine gg tb ?_ | refine ll tb ?_ | refine lg tb ?_); repeat ((first | refine G.condT rfl ?_ | refine G.condF rfl ?_ | refine sFa tb ?_ | refine sLd tb ?_ | refine sLa tb ?_ | refine sLen tb ?_ | refine sFd tb ?_ | refine sBd tb ?_ | refine sBa tb ?_); try (first | refine gl tb ?_ | refine gg tb ?_ | refine ll tb ?_ | refine lg tb ?_))
      have hu10 : u / 10 < 10 ^ (at_ - 1) := by
        have : at_ = (at_ - 1) + 1 := by omega
        rw [this, Nat.pow_succ] at hu
        exact Nat.div_lt_of_lt_mul (by rw [Nat.mul_comm]; exact hu)
      refine G.lp (x := (at_, u, first)) (at_ - 1, u / 10, false) (by repeat (first | exact Sub.nil _ | refine Sub.cons rfl ?_)) ⟨hx1, by simp only; omega, hu10, by simp only; omega, (fun h => by cases h), (fun _ => by simp only; omega), _, byI (48 + ((u % 10 : Nat) : Int)) :: suf, hb1, ?_, ?_, ?_⟩ ?_
      · simp only [List.length_append, List.length_take, List.length_drop, List.length_cons, List.length_nil]; omega
      · have e1 : (arr.take ((at_ - 1) * 1) ++ [U (byI (48 + ((u % 10 : Nat) : Int)))] ++ arr.drop ((at_ - 1) * 1 + 1)).drop (at_ - 1) = U (byI (48 + ((u % 10 : Nat) : Int))) :: arr.drop at_ := by
          rw [Nat.mul_one, List.append_assoc, List.drop_append, List.drop_of_length_le (l := arr.take (at_ - 1)) (by rw [List.length_take]; omega), List.nil_append, List.length_take, Nat.min_eq_left (by omega), Nat.sub_self, List.drop_zero]
          rw [show at_ - 1 + 1 = at_ by omega]; rfl
        rw [e1, hsuf]; rfl
      · simp only [Bool.false_eq_true, false_or]
        rw [hstep] at hdig
        by_cases h10 : u < 10
        · rw [if_pos h10] at hdig
          rw [if_neg (by omega), ← hdig, Nat.mod_eq_of_lt h10]; rfl
        · rw [if_neg h10] at hdig
          rw [if_pos (by omega), ← hdig]; simp
      · simp only [Bool.false_eq_true, if_false]
        cases first with
        | true => simp only [if_true]; omega
        | false =>
          have : 0 < u := by rcases hgo with h | h; exact absurd h (by simp); exact h
          simp only [Bool.false_eq_true, if_false]; omega
    · have hno : ¬ (first = true ∨ 0 < u) := by
        rintro (h | h)
        · rw [h] at hc; simp at hc
        · rw [decide_eq_true (show (0 : Int) < (u : Int) by omega)] at hc; simp at hc
      rw [if_neg hno] at hdig
      have ha20 := hf2 (by cases first with
        | true => exact absurd (.inl rfl) hno
        | false => rfl)
      have hby : ((arr.drop at_).map fun u => [u]) = bysC suf := by rw [hsuf, List.map_map]; rfl
      have hsl := digF_len 19 N
      rw [← hdig] at hsl
      try (first | refine gl tb ?_ | refine gg tb ?_ | refine ll tb ?_ | refine lg tb ?_); repeat ((first | refine G.condT rfl ?_ | refine G.condF rfl ?_ | refine sFa tb ?_ | refine sLd tb ?_ | refine sLa tb ?_ | refine sLen tb ?_ | refine sFd tb ?_ | refine sBd tb ?_ | refine sBa tb ?_); try (first | refine gl tb ?_ | refine gg tb ?_ | refine ll tb ?_ | refine lg tb ?_))
      first | refine G.condD rfl (fun hc => ?_) (fun hc => ?_) | refine G.condN rfl (fun hc => ?_) (fun hc => ?_) | refine G.cond rfl (fun hc => ?_) (fun hc => ?_)
      · have hd : decN n = 45 :: suf := by unfold decN; rw [if_pos hc, ← hN, hdig]
        try (first | refine gl tb ?_ | refine gg tb ?_ | refine ll tb ?_ | refine lg tb ?_); repeat ((first | refine G.condT rfl ?_ | refine G.condF rfl ?_ | refine sFa tb ?_ | refine sLd tb ?_ | refine sLa tb ?_ | refine sLen tb ?_ | refine sFd tb ?_ | refine sBd tb ?_ | refine sBa tb ?_); try (first | refine gl tb ?_ | refine gg tb ?_ | refine ll tb ?_ | refine lg tb ?_))
        refine GL.cons (Step.sliceArr tb rfl (Op1.of rfl (by first | exact fun _ => rfl | exact fun h => h | exact fun h => bL h | exact fun h => bL (bL h) | exact fun h => bL (bL (bL h)))) (Op1.of rfl (by first | exact fun _ => rfl | exact fun h => h | exact fun h => bL h | exact fun h => bL (bL h) | exact fun h => bL (bL (bL h)))) rfl rfl hb hal rfl ha20 (by omega) rfl ?_)
        intro v hv
        rw [hby] at hv
        refine sByS tb hv ?_
        refine sCat tb ?_
        try (first | refine gl tb ?_ | refine gg tb ?_ | refine ll tb ?_ | refine lg tb ?_); repeat ((first | refine G.condT rfl ?_ | refine G.condF rfl ?_ | refine sFa tb ?_ | refine sLd tb ?_ | refine sLa tb ?_ | refine sLen tb ?_ | refine sFd tb ?_ | refine sBd tb ?_ | refine sBa tb ?_); try (first | refine gl tb ?_ | refine gg tb ?_ | refine ll tb ?_ | refine lg tb ?_))
        refine G.ret1 rfl rfl rfl rfl ?_
        rw [hd]
        exact ⟨rfl, hx⟩
      · have hd : decN n = suf := by unfold decN; rw [if_neg hc, ← hN, hdig]
        try (first | refine gl tb ?_ | refine gg tb ?_ | refine ll tb ?_ | refine lg tb ?_); repeat ((first | refine G.condT rfl ?_ | refine G.condF rfl ?_ | refine sFa tb ?_ | refine sLd tb ?_ | refine sLa tb ?_ | refine sLen tb ?_ | refine sFd tb ?_ | refine sBd tb ?_ | refine sBa tb ?_); try (first | refine gl tb ?_ | refine gg tb ?_ | refine ll tb ?_ | refine lg tb ?_))
        refine GL.cons (Step.sliceArr tb rfl (Op1.of rfl (by first | exact fun _ => rfl | exact fun h => h | exact fun h => bL h | exact fun h => bL (bL h) | exact fun h => bL (bL (bL h)))) (Op1.of rfl (by first | exact fun _ => rfl | exact fun h => h | exact fun h => bL h | exact fun h => bL (bL h) | exact fun h => bL (bL (bL h)))) rfl rfl hb hal rfl ha20 (by omega) rfl ?_)
        intro v hv
        rw [hby] at hv
        refine sByS tb hv ?_
        try (first | refine gl tb ?_ | refine gg tb ?_ | refine ll tb ?_ | refine lg tb ?_); repeat ((first | refine G.condT rfl ?_ | refine G.condF rfl ?_ | refine sFa tb ?_ | refine sLd tb ?_ | refine sLa tb ?_ | refine sLen tb ?_ | refine sFd tb ?_ | refine sBd tb ?_ | refine sBa tb ?_); try (first | refine gl tb ?_ | refine gg tb ?_ | refine ll tb ?_ | refine lg tb ?_))
        refine G.ret1 rfl rfl rfl rfl ?_
        rw [hd]
        exact ⟨rfl, hx⟩
  · first | refine G.condD rfl (fun hc => ?_) (fun hc => ?_) | refine G.condN rfl (fun hc => ?_) (fun hc => ?_) | refine G.cond rfl (fun hc => ?_) (fun hc => ?_)
    · try (first | refine gl tb ?_ | refine gg tb ?_ | refine ll tb ?_ | refine lg tb ?_); repeat ((first | refine G.condT rfl ?_ | refine G.condF rfl ?_ | refine sFa tb ?_ | refine sLd tb ?_ | refine sLa tb ?_ | refine sLen tb ?_ | refine sFd tb ?_ | refine sBd tb ?_ | refine sBa tb ?_); try (first | refine gl tb ?_ | refine gg tb ?_ | refine ll tb ?_ | refine lg tb ?_))
      refine GL.cons (Step.neg (r := (N : Int)) rfl (Op1.of rfl (by first | exact fun _ => rfl | exact fun h => h | exact fun h => bL h | exact fun h => bL (bL h) | exact fun h => bL (bL (bL h)))) (by rw [wrap_u64m]; omega) rfl ?_)
      try (first | refine gl tb ?_ | refine gg tb ?_ | refine ll tb ?_ | refine lg tb ?_); repeat ((first | refine G.condT rfl ?_ | refine G.condF rfl ?_ | refine sFa tb ?_ | refine sLd tb ?_ | refine sLa tb ?_ | refine sLen tb ?_ | refine sFd tb ?_ | refine sBd tb ?_ | refine sBa tb ?_); try (first | refine gl tb ?_ | refine gg tb ?_ | refine ll tb ?_ | refine lg tb ?_))
      exact G.met () (by repeat (first | exact Sub.nil _ | refine Sub.cons rfl ?_)) rfl
    · rw [show n % 18446744073709551616 = (N : Int) by omega]
      try (first | refine gl tb ?_ | refine gg tb ?_ | refine ll tb ?_ | refine lg tb ?_); repeat ((first | refine G.condT rfl ?_ | refine G.condF rfl ?_ | refine sFa tb ?_ | refine sLd tb ?_ | refine sLa tb ?_ | refine sLen tb ?_ | refine sFd tb ?_ | refine sBd tb ?_ | refine sBa tb ?_); try (first | refine gl tb ?_ | refine gg tb ?_ | refine ll tb ?_ | refine lg tb ?_))
      exact G.met () (by repeat (first | exact Sub.nil _ | refine Sub.cons rfl ?_)) rfl
end Go.Proofs.YtlaingmhdgpkdaaGreatDoor
