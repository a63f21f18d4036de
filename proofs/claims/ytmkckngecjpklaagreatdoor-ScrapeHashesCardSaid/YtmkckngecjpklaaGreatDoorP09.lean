/- Sets are spread by the hash of their labels over numbers below the modulus, alike ones alike. Conditions: none beyond the statement's own. -/
import Derived.Test.YtmkckngecjpklaaGreatDoorP08
section
open Go Go.Vg Go.RowKit Go.Proofs Go.Proofs.YtmkckngecjpklaaGreatDoor
namespace Go.Proofs.YtmkckngecjpklaaGreatDoor
set_option linter.unusedSimpArgs false
namespace Num

def rngC (a b : Int) (c : UInt8) : Bool := decide (a ≤ c.toNat) && decide ((c.toNat : Int) ≤ b)
theorem drop_at {s : List UInt8} {k : Nat} (h : k < s.length) : s.drop k = s.getD k 0 :: s.drop (k + 1) := by
  rw [List.drop_eq_getElem_cons h]; simp [List.getD, h]
def digF : Nat → Nat → List UInt8
  | 0, n => [byI (48 + (n : Int))]
  | f + 1, n => if n < 10 then [byI (48 + (n : Int))] else digF f (n / 10) ++ [byI (48 + ((n % 10 : Nat) : Int))]
theorem digF_len : ∀ (f n : Nat), (digF f n).length ≤ f + 1
  | 0, n => by simp [digF]
  | f + 1, n => by
    simp only [digF]
    split
    · simp
    · have := digF_len f (n / 10)
      rw [List.length_append, List.length_cons, List.length_nil]; omega
/-- a number in decimal digits, at most so many -/
def decN (n : Int) : List UInt8 := if n < 0 then 45 :: digF 19 n.natAbs else digF 19 n.natAbs
theorem digF_fuel : ∀ (f n : Nat), n < 10 ^ (f + 1) → digF (f + 1) n = digF f n
  | 0, n, h => by simp only [digF]; rw [if_pos (by omega)]
  | f + 1, n, h => by
    have ih := digF_fuel f (n / 10) (by rw [Nat.pow_succ] at h; exact Nat.div_lt_of_lt_mul (by rw [Nat.mul_comm]; exact h))
    have e1 : digF (f + 2) n = if n < 10 then [byI (48 + (n : Int))] else digF (f + 1) (n / 10) ++ [byI (48 + ((n % 10 : Nat) : Int))] := rfl
    have e2 : digF (f + 1) n = if n < 10 then [byI (48 + (n : Int))] else digF f (n / 10) ++ [byI (48 + ((n % 10 : Nat) : Int))] := rfl
    rw [e1, e2, ih]
theorem digF_step (n : Nat) (h : n < 10 ^ 20) : digF 19 n = if n < 10 then [byI (48 + (n : Int))] else digF 19 (n / 10) ++ [byI (48 + ((n % 10 : Nat) : Int))] := by
  have h2 : n / 10 < 10 ^ 19 := Nat.div_lt_of_lt_mul (by rw [show 10 * 10 ^ 19 = 10 ^ 20 by decide]; exact h)
  rw [digF_fuel 18 (n / 10) h2]
  rfl
theorem wrap_u64m (n : Int) : IntKind.u64.wrap n = n % 18446744073709551616 := rfl
theorem intText_ok (n : Int) (w : World) (h1 : -9223372036854775808 ≤ n) (h2 : n ≤ 9223372036854775807) :
    Ret Tryz.prog 138 ⟨[.int .i64 n]⟩ w fun r w' => r = S (decN n) ∧ Ext w w' := by
  refine ret_of_G Tryz.func138 rfl Tryz.ntmps138 rfl ?_
  simp only [argEnv]
  refine rn ?_
  refine sCv tb (r := n % 18446744073709551616) ?_ (hr := rfl)
  refine rn ?_
  obtain ⟨N, hN⟩ : ∃ N, N = n.natAbs := ⟨_, rfl⟩
  have hN9 : N ≤ 9223372036854775808 := by omega
  refine G.join (fun _ : Unit => [(0, none, .int .i64 n), (3, none, .int .u64 (N : Int))]) (fun _ w' => w' = w) ?_ ?_
  · rintro _ w_ rfl
    refine rn ?_
    refine sAl tb ?_
    intro w1 hb1 hs1 hx1
    refine rn ?_
    refine (G.loop (fun x : Nat × Nat × Bool => [(0, none, .int .i64 n), (3, none, .int .u64 (x.2.1 : Int)), (4, none, ptr w_.heap.size), (5, none, .int .i64 x.1), (6, none, .bool x.2.2)])
      (fun x W => Ext w_ W ∧ x.1 ≤ 20 ∧ (x.2.1 < 10 ^ x.1) ∧ x.2.1 ≤ N ∧ (x.2.2 = true → x.1 = 20 ∧ x.2.1 = N) ∧ (x.2.2 = false → x.1 < 20) ∧ ∃ arr suf, Bx W w_.heap.size arr ∧ arr.length = 20 ∧ arr.drop x.1 = suf.map U ∧ (if x.2.2 = true ∨ 0 < x.2.1 then digF 19 x.2.1 ++ suf else suf) = digF 19 N)
      (fun x => if x.2.2 = true then x.2.1 + 21 else x.2.1) (20, N, true) (by repeat (first | exact Sub.nil _ | refine Sub.cons rfl ?_)) ⟨hx1, by simp, by simp only; omega, Nat.le_refl _, fun _ => ⟨rfl, rfl⟩, (fun h => by cases h), _, [], hb1, rfl, rfl, by simp⟩ ?_)
    rintro ⟨at_, u, first⟩ W ⟨hx, hat, hu, huN, hf, hf2, arr, suf, hb, hal, hsuf, hdig⟩
    simp only at hat hu huN hf hf2 hb hal hsuf hdig ⊢
    refine rn ?_
    first | refine G.condD rfl (fun hc => ?_) (fun hc => ?_) | refine G.condN rfl (fun hc => ?_) (fun hc => ?_) | refine G.cond rfl (fun hc => ?_) (fun hc => ?_)
    · have hgo : first = true ∨ 0 < u := by
        cases first with
        | true => exact .inl rfl
        | false => right; simpa using hc
      rw [if_pos hgo] at hdig
      have hat1 : 1 ≤ at_ := by
        rcases hgo with h | h
        · have := (hf h).1; omega
        · apply Classical.byContradiction
          intro h0
          have h00 : at_ = 0 := by omega
          rw [h00] at hu
          simp at hu; omega
      have hu20 : u < 10 ^ 20 := Nat.lt_of_lt_of_le hu (Nat.pow_le_pow_right (by omega) hat)
      have hstep := digF_step u hu20
      refine rn ?_
      refine sAr (r := ((at_ - 1 : Nat) : Int)) ?_ (hp := (wrap_i64 (by omega) (by omega)).trans (by omega))
      refine rn ?_
      refine sRem (r := ((u % 10 : Nat) : Int)) rfl ?_
      refine sAr (r := 48 + ((u % 10 : Nat) : Int)) ?_ (hp := wrap_u64 (by omega) (by omega))
      refine sCb tb ?_
      refine sIaA tb (at_ - 1) ?_ (hj := fun _ => ⟨rfl, by omega⟩)
      refine sSf tb ?_ (off := (at_ - 1) * 1) (hb := hb) (hl := by omega)
      intro W1 hb1 hw1
      have hx1 : Ext w_ W1 := Below.wr hx hw1 (Nat.le_refl _)
      refine rn ?_
      refine sQuo (r := ((u / 10 : Nat) : Int)) (by rw [show ((u : Int).tdiv 10) = ((u / 10 : Nat) : Int) from rfl]; exact wrap_u64 (by omega) (by omega)) ?_
      refine rn ?_
      have hu10 : u / 10 < 10 ^ (at_ - 1) := by
        have : at_ = (at_ - 1) + 1 := by omega
        rw [this, Nat.pow_succ] at hu
        exact Nat.div_lt_of_lt_mul (by rw [Nat.mul_comm]; exact hu)
      refine G.lp (x := (at_, u, first)) (at_ - 1, u / 10, false) (by repeat (first | exact Sub.nil _ | refine Sub.cons rfl ?_)) ⟨hx1, by simp only; omega, hu10, by simp only; omega, (fun h => by cases h), (fun _ => by simp only; omega), _, byI (48 + ((u % 10 : Nat) : Int)) :: suf, hb1, ?_, ?_, ?_⟩ ?_
      · simp only [List.length_append, List.length_take, List.length_drop, List.length_cons, List.length_nil]; omega
      · have e1 : (arr.take ((at_ - 1) * 1) ++ [U (byI (48 + ((u % 10 : Nat) : Int)))] ++ arr.drop ((at_ - 1) * 1 + 1)).drop (at_ - 1) = U (byI (48 + ((u % 10 : Nat) : Int))) :: arr.drop at_ := by
          rw [Nat.mul_one, List.append_assoc, List.drop_append, List.drop_of_length_le (l := arr.take (at_ - 1)) (by rw [List.length_take]; omega), List.nil_append, List.length_take, Nat.min_eq_left (by omega), Nat.sub_self, List.drop_zero]
          rw [show at_ - 1 + 1 = at_ by omega]; rfl
        rw [e1, hsuf]; rfl
      · simp only [Bool.false_eq_true, false_or]
        rw [hstep] at hdig
        by_cases h10 : u < 10
        · rw [if_pos h10] at hdig
          rw [if_neg (by omega), ← hdig, Nat.mod_eq_of_lt h10]; rfl
        · rw [if_neg h10] at hdig
          rw [if_pos (by omega), ← hdig]; simp
      · simp only [Bool.false_eq_true, if_false]
        cases first with
        | true => simp only [if_true]; omega
        | false =>
          have : 0 < u := by rcases hgo with h | h; exact absurd h (by simp); exact h
          simp only [Bool.false_eq_true, if_false]; omega
    · have hno : ¬ (first = true ∨ 0 < u) := by
        rintro (h | h)
        · rw [h] at hc; simp at hc
        · rw [decide_eq_true (show (0 : Int) < (u : Int) by omega)] at hc; simp at hc
      rw [if_neg hno] at hdig
      have ha20 := hf2 (by cases first with
        | true => exact absurd (.inl rfl) hno
        | false => rfl)
      have hby : ((arr.drop at_).map fun u => [u]) = bysC suf := by rw [hsuf, List.map_map]; rfl
      have hsl := digF_len 19 N
      rw [← hdig] at hsl
      refine rn ?_
      first | refine G.condD rfl (fun hc => ?_) (fun hc => ?_) | refine G.condN rfl (fun hc => ?_) (fun hc => ?_) | refine G.cond rfl (fun hc => ?_) (fun hc => ?_)
      · have hd : decN n = 45 :: suf := by unfold decN; rw [if_pos hc, ← hN, hdig]
        refine rn ?_
        refine GL.cons (Step.sliceArr tb rfl (Op1.of rfl (by first | exact fun _ => rfl | exact fun h => h | exact fun h => bL h | exact fun h => bL (bL h) | exact fun h => bL (bL (bL h)))) (Op1.of rfl (by first | exact fun _ => rfl | exact fun h => h | exact fun h => bL h | exact fun h => bL (bL h) | exact fun h => bL (bL (bL h)))) rfl rfl hb hal rfl ha20 (by omega) rfl ?_)
        intro v hv
        rw [hby] at hv
        refine sByS tb hv ?_
        refine sCat tb ?_
        refine rn ?_
        refine G.ret1 rfl rfl rfl rfl ?_
        rw [hd]
        exact ⟨rfl, hx⟩
      · have hd : decN n = suf := by unfold decN; rw [if_neg hc, ← hN, hdig]
        refine rn ?_
        refine GL.cons (Step.sliceArr tb rfl (Op1.of rfl (by first | exact fun _ => rfl | exact fun h => h | exact fun h => bL h | exact fun h => bL (bL h) | exact fun h => bL (bL (bL h)))) (Op1.of rfl (by first | exact fun _ => rfl | exact fun h => h | exact fun h => bL h | exact fun h => bL (bL h) | exact fun h => bL (bL (bL h)))) rfl rfl hb hal rfl ha20 (by omega) rfl ?_)
        intro v hv
        rw [hby] at hv
        refine sByS tb hv ?_
        refine rn ?_
        refine G.ret1 rfl rfl rfl rfl ?_
        rw [hd]
        exact ⟨rfl, hx⟩
  · first | refine G.condD rfl (fun hc => ?_) (fun hc => ?_) | refine G.condN rfl (fun hc => ?_) (fun hc => ?_) | refine G.cond rfl (fun hc => ?_) (fun hc => ?_)
    · refine rn ?_
      refine GL.cons (Step.neg (r := (N : Int)) rfl (Op1.of rfl (by first | exact fun _ => rfl | exact fun h => h | exact fun h => bL h | exact fun h => bL (bL h) | exact fun h => bL (bL (bL h)))) (by rw [wrap_u64m]; omega) rfl ?_)
      refine rn ?_
      exact G.met () (by repeat (first | exact Sub.nil _ | refine Sub.cons rfl ?_)) rfl
    · rw [show n % 18446744073709551616 = (N : Int) by omega]
      refine rn ?_
      exact G.met () (by repeat (first | exact Sub.nil _ | refine Sub.cons rfl ?_)) rfl
theorem all_take {p : UInt8 → Bool} {s : List UInt8} {k : Nat} (h : k < s.length) (ha : (s.take k).all p = true) : (s.take (k + 1)).all p = p (s.getD k 0) := by
  rw [List.take_succ_eq_append_getElem h, List.all_append, ha]
  simp [List.getD, h]
theorem hasPrefixL_ok (s p : List UInt8) (w : World) : Ret Tryz.prog 218 ⟨[S s, S p]⟩ w fun r w' => r = .bool (Lib.hasPrefix s p) ∧ w' = w :=
  Calls.mono (Any.stringslite_HasPrefix { Tryz.lays99 with } ⟨⟨s⟩⟩ ⟨⟨p⟩⟩ w) fun _ _ ⟨he, hw⟩ => ⟨_, he, rfl, hw⟩
theorem cutPrefixL_ok (s p : List UInt8) (w : World) : Ret Tryz.prog 149 ⟨[S s, S p]⟩ w fun r w' => r = (match Lib.hasPrefix s p with | true => .tuple ⟨[S (s.drop p.length), .bool true]⟩ | false => .tuple ⟨[S s, .bool false]⟩) ∧ w' = w := by
  have hpl : Lib.hasPrefix s p = true → p.length ≤ s.length := fun h => (List.isPrefixOf_iff_prefix.1 h).length_le
  refine ret_of_G Tryz.func149 rfl Tryz.ntmps149 rfl ?_
  simp only [argEnv]
  refine rn ?_
  refine sCallq c218 (fun _ => hasPrefixL_ok s p w) ?_
  refine rn ?_
  cases h : Lib.hasPrefix s p with
  | false =>
    refine rn ?_
    refine G.ret2 rfl rfl rfl rfl rfl ?_
    exact ⟨rfl, rfl⟩
  | true =>
    have := hpl h
    refine rn ?_
    refine GL.cons (Step.sliceSl tb p.length rfl (Op1.of rfl (by first | exact fun _ => rfl | exact fun h => h | exact fun h => bL h | exact fun h => bL (bL h) | exact fun h => bL (bL (bL h)))) (Op1.of rfl (by first | exact fun _ => rfl | exact fun h => h | exact fun h => bL h | exact fun h => bL (bL h) | exact fun h => bL (bL (bL h)))) rfl (fun _ => ⟨rfl, this⟩) rfl ?_)
    refine rn ?_
    refine G.ret2 rfl rfl rfl rfl rfl ?_
    exact ⟨rfl, rfl⟩
theorem cutPrefix_ok (s p : List UInt8) (w : World) : Ret Tryz.prog 74 ⟨[S s, S p]⟩ w fun r w' => r = (match Lib.hasPrefix s p with | true => .tuple ⟨[S (s.drop p.length), .bool true]⟩ | false => .tuple ⟨[S s, .bool false]⟩) ∧ w' = w := by
  have hc := cutPrefixL_ok s p w
  refine ret_of_G Tryz.func74 rfl Tryz.ntmps74 rfl ?_
  simp only [argEnv]
  refine rn ?_
  refine sCall c149 (hc) ?_
  rintro r w1 ⟨rfl, hw⟩
  cases h : Lib.hasPrefix s p with
  | false =>
    refine rn ?_
    refine G.ret2 rfl rfl rfl rfl rfl ?_
    exact ⟨rfl, hw⟩
  | true =>
    refine rn ?_
    refine G.ret2 rfl rfl rfl rfl rfl ?_
    exact ⟨rfl, hw⟩
abbrev dig (c : UInt8) : Bool := rngC 48 57 c
theorem numDigit_ok (c : UInt8) (w : World) : Ret Tryz.prog 150 ⟨[U c]⟩ w fun r w' => r = .bool (dig c) ∧ w' = w := by
  refine ret_of_G Tryz.func150 rfl Tryz.ntmps150 rfl ?_
  simp only [argEnv]
  refine rn ?_
  refine G.ret1 rfl rfl rfl rfl ?_
  exact ⟨rfl, rfl⟩
/-- how many digits a text begins with -/
def runP (s : List UInt8) : Nat := (s.takeWhile dig).length
theorem runP_at {s : List UInt8} {k : Nat} (hk : k ≤ s.length) (ha : (s.take k).all dig = true) (he : ¬ (k < s.length) ∨ dig (s.getD k 0) = false) : runP s = k := by
  have e : s = s.take k ++ s.drop k := (List.take_append_drop k s).symm
  have ha' : ∀ a ∈ s.take k, dig a = true := by simpa using ha
  unfold runP
  rw [e, List.takeWhile_append_of_pos ha', List.length_append, List.length_take, Nat.min_eq_left hk]
  have : (s.drop k).takeWhile dig = [] := by
    rcases he with h | h
    · rw [List.drop_of_length_le (by omega)]; rfl
    · by_cases hlt : k < s.length
      · rw [drop_at hlt, List.takeWhile_cons, h]; rfl
      · rw [List.drop_of_length_le (by omega)]; rfl
  rw [this]; rfl
theorem run_ok (s : List UInt8) (w : World) (hs : s.length ≤ 9223372036854775806) : Ret Tryz.prog 75 ⟨[S s]⟩ w fun r w' => r = .int .i64 (runP s) ∧ w' = w := by
  refine ret_of_G Tryz.func75 rfl Tryz.ntmps75 rfl ?_
  simp only [argEnv]
  refine rn ?_
  refine (G.loop (fun k : Nat => [(0, none, S s), (3, none, .int .i64 k)]) (fun k w' => w' = w ∧ k ≤ s.length ∧ (s.take k).all dig = true) (fun k => s.length - k) 0 (by repeat (first | exact Sub.nil _ | refine Sub.cons rfl ?_)) ⟨rfl, by omega, by simp⟩ ?_)
  rintro k w1 ⟨rfl, hk, hall⟩
  refine rn ?_
  refine sBs tb k ?_
  refine sCallq c150 (fun _ => numDigit_ok _ w1) ?_
  refine rn ?_
  first | refine G.condD rfl (fun hc => ?_) (fun hc => ?_) | refine G.condN rfl (fun hc => ?_) (fun hc => ?_) | refine G.cond rfl (fun hc => ?_) (fun hc => ?_)
  · simp only [Bool.and_eq_true, decide_eq_true_eq] at hc
    obtain ⟨h1, h2⟩ := hc
    have hlt : k < s.length := by omega
    refine rn ?_
    refine sAd tb ?_
    refine rn ?_
    exact G.lp (k + 1) (by repeat (first | exact Sub.nil _ | refine Sub.cons rfl ?_)) ⟨rfl, by omega, by rw [all_take hlt hall, h2]⟩ (by omega)
  · have hr := runP_at hk hall (by
      simp only [Bool.and_eq_false_iff, decide_eq_false_iff_not] at hc
      rcases hc with h | h
      · exact .inl (by omega)
      · exact .inr h)
    refine rn ?_
    refine G.ret1 rfl rfl rfl rfl ?_
    exact ⟨by rw [hr], rfl⟩
/-- digits read below 0 -/
def intL : Int → List UInt8 → Option Int
  | n, [] => some n
  | n, c :: r => if n < (-9223372036854775808 + ((c.toNat : Int) - 48)).tdiv 10 then none else intL (10 * n - ((c.toNat : Int) - 48)) r
def restP (s : List UInt8) : List UInt8 := if Lib.hasPrefix s [45] = true then s.drop 1 else s
def badP (s : List UInt8) : Bool := (decide (restP s = []) || !decide ((runP (restP s) : Int) = (restP s).length)) || (decide (((restP s).getD 0 0).toNat = (48 : Int)) && !decide (s = [48]))
/-- a whole number as it is written -/
def intP (s : List UInt8) : Option Int := if badP s = true then none else match intL 0 (restP s) with
  | none => none
  | some n => if Lib.hasPrefix s [45] = true then some n else if n = -9223372036854775808 then none else some (-n)
theorem runP_all {s : List UInt8} (h : runP s = s.length) : s.all dig = true := by
  have : s.takeWhile dig = s := List.IsPrefix.eq_of_length (List.takeWhile_prefix dig) h
  rw [← this]
  simp
theorem int_ok (s : List UInt8) (w : World) (hs : s.length ≤ 4000000000) : Ret Tryz.prog 38 ⟨[S s]⟩ w fun r w' => r = (match intP s with | some n => .tuple ⟨[.int .i64 n, .int .i64 0]⟩ | none => .tuple ⟨[.int .i64 0, .int .i64 8]⟩) ∧ w' = w := by
  have hrl : (restP s).length ≤ 4000000000 := by
    unfold restP
    split
    · rw [List.length_drop]; omega
    · exact hs
  have hcp : (match Lib.hasPrefix s [45] with | true => Value.tuple ⟨[S (s.drop ([45] : List UInt8).length), .bool true]⟩ | false => .tuple ⟨[S s, .bool false]⟩) = .tuple ⟨[S (restP s), .bool (Lib.hasPrefix s [45])]⟩ := by
    unfold restP
    cases Lib.hasPrefix s [45] <;> rfl
  refine ret_of_G Tryz.func38 rfl Tryz.ntmps38 rfl ?_
  simp only [argEnv]
  refine rn ?_
  refine sCall c74 (cutPrefix_ok s [45] w) ?_
  rintro r w1 ⟨rfl, hw⟩
  obtain rfl : w = w1 := hw.symm
  rw [hcp]
  refine rn ?_
  refine sCallq c75 (fun _ => run_ok (restP s) w (by omega)) ?_
  refine rn ?_
  refine sBs tb 0 ?_ (hj := fun hc => ⟨rfl, by
    simp only [cv, Bool.not_eq_true', Bool.or_eq_false_iff, decide_eq_false_iff_not] at hc
    exact List.length_pos_iff.2 hc.1⟩)
  refine rn ?_
  first | refine G.condD rfl (fun hc => ?_) (fun hc => ?_) | refine G.condN rfl (fun hc => ?_) (fun hc => ?_) | refine G.cond rfl (fun hc => ?_) (fun hc => ?_)
  · have hb : badP s = true := hc
    refine rn ?_
    refine G.ret2 rfl rfl rfl rfl rfl ?_
    exact ⟨by unfold intP; rw [if_pos hb], rfl⟩
  · have hb : badP s = false := hc
    have hall : (restP s).all dig = true := by
      refine runP_all ?_
      unfold badP at hb
      simp only [Bool.or_eq_false_iff, Bool.not_eq_false', decide_eq_true_eq] at hb
      exact_mod_cast hb.1.2
    have hpi : intP s = match intL 0 (restP s) with
        | none => none
        | some n => if Lib.hasPrefix s [45] = true then some n else if n = -9223372036854775808 then none else some (-n) := by
      unfold intP; rw [if_neg (by rw [hb]; simp)]
    clear hc hb hcp
    generalize restP s = rest at hrl hall hpi ⊢
    generalize Lib.hasPrefix s [45] = neg at hpi ⊢
    refine rn ?_
    refine (G.loop (fun x : Nat × Int => [(5, none, .bool neg), (4, none, S rest), (6, none, .int .i64 x.2), (33, none, .int .i64 rest.length), (34, none, .int .i64 x.1)])
      (fun x W => W = w ∧ x.1 ≤ rest.length ∧ -9223372036854775808 ≤ x.2 ∧ x.2 ≤ 0 ∧ intL x.2 (rest.drop x.1) = intL 0 rest) (fun x => rest.length - x.1) (0, 0) (by repeat (first | exact Sub.nil _ | refine Sub.cons rfl ?_)) ⟨rfl, by simp, by simp, by simp, by simp⟩ ?_)
    rintro ⟨k, n⟩ W ⟨rfl, hk, hn1, hn2, hin⟩
    simp only at hk hn1 hn2 hin ⊢
    refine rn ?_
    first | refine G.condD rfl (fun hc => ?_) (fun hc => ?_) | refine G.condN rfl (fun hc => ?_) (fun hc => ?_) | refine G.cond rfl (fun hc => ?_) (fun hc => ?_)
    · have hlt : k < rest.length := by omega
      rw [drop_at hlt] at hin
      have hd : dig (rest.getD k 0) = true := by
        have := List.all_eq_true.1 hall rest[k] (List.getElem_mem hlt)
        simpa [List.getD, hlt] using this
      unfold dig rngC at hd
      simp only [Bool.and_eq_true, decide_eq_true_eq] at hd
      refine rn ?_
      refine sBs tb k ?_
      generalize rest.getD k 0 = c at hin hd ⊢
      have htd : (-9223372036854775808 + ((c.toNat : Int) - 48)).tdiv 10 = -((9223372036854775808 - ((c.toNat : Int) - 48)) / 10) := by
        rw [show (-9223372036854775808 + ((c.toNat : Int) - 48)) = -(9223372036854775808 - ((c.toNat : Int) - 48)) by omega, Int.neg_tdiv, Int.tdiv_eq_ediv_of_nonneg (by omega)]
      simp only [intL] at hin
      rw [htd] at hin
      refine sAr (r := (c.toNat : Int) - 48) ?_ (hp := (Go.Vg.wrap_u8 _).trans (by omega))
      refine sCv tb (r := (c.toNat : Int) - 48) ?_
      refine rn ?_
      refine sAr (r := -9223372036854775808 + ((c.toNat : Int) - 48)) ?_ (hp := wrap_i64 (by omega) (by omega))
      refine sQuo (r := -((9223372036854775808 - ((c.toNat : Int) - 48)) / 10)) (by rw [htd]; exact wrap_i64 (by omega) (by omega)) ?_
      refine rn ?_
      first | refine G.condD rfl (fun hc => ?_) (fun hc => ?_) | refine G.condN rfl (fun hc => ?_) (fun hc => ?_) | refine G.cond rfl (fun hc => ?_) (fun hc => ?_)
      · rw [if_pos hc] at hin
        have : intP s = none := by rw [hpi, ← hin]
        refine rn ?_
        refine G.ret2 rfl rfl rfl rfl rfl ?_
        exact ⟨by rw [this], rfl⟩
      · rw [if_neg hc] at hin
        refine rn ?_
        refine sAr (r := 10 * n) ?_ (hp := wrap_i64 (by omega) (by omega))
        refine rn ?_
        refine sAr (r := 10 * n - ((c.toNat : Int) - 48)) ?_ (hp := wrap_i64 (by omega) (by omega))
        refine rn ?_
        refine sAd tb ?_
        refine rn ?_
        exact G.lp (x := (k, n)) (k + 1, 10 * n - ((c.toNat : Int) - 48)) (by repeat (first | exact Sub.nil _ | refine Sub.cons rfl ?_)) ⟨rfl, by simp only; omega, by simp only; omega, by simp only; omega, hin⟩ (by simp only; omega)
    · obtain rfl : k = rest.length := by omega
      rw [List.drop_length] at hin
      have hi2 : intL 0 rest = some n := by rw [← hin]; rfl
      rw [hi2] at hpi
      simp only at hpi
      refine rn ?_
      first | refine G.condD rfl (fun hc => ?_) (fun hc => ?_) | refine G.condN rfl (fun hc => ?_) (fun hc => ?_) | refine G.cond rfl (fun hc => ?_) (fun hc => ?_)
      · subst hc
        refine rn ?_
        refine G.ret2 rfl rfl rfl rfl rfl ?_
        exact ⟨by rw [hpi]; rfl, rfl⟩
      · subst hc
        refine rn ?_
        first | refine G.condD rfl (fun hc => ?_) (fun hc => ?_) | refine G.condN rfl (fun hc => ?_) (fun hc => ?_) | refine G.cond rfl (fun hc => ?_) (fun hc => ?_)
        · refine rn ?_
          refine G.ret2 rfl rfl rfl rfl rfl ?_
          exact ⟨by rw [hpi, if_neg (by simp), if_pos hc], rfl⟩
        · refine rn ?_
          refine sNeg ?_
          refine rn ?_
          refine G.ret2 rfl rfl rfl rfl rfl ?_
          exact ⟨by rw [hpi, if_neg (by simp), if_neg hc]; simp, rfl⟩
end Num
end Go.Proofs.YtmkckngecjpklaaGreatDoor
end
section
open Go Go.Vg Go.RowKit Go.Proofs Go.Proofs.YtmkckngecjpklaaGreatDoor
namespace Go.Proofs.YtmkckngecjpklaaGreatDoor
set_option linter.unusedSimpArgs false

def hStep (h : Int) (c : UInt8) : Int := IntKind.u64.wrap (bits .xor .u64 h c.toNat * 1099511628211)
def hSum (l : List UInt8) : Int := l.foldl hStep 14695981039346656037
theorem hSum_snoc (l : List UInt8) (c : UInt8) : hSum (l ++ [c]) = hStep (hSum l) c := by simp [hSum]
theorem take_byR {s : List UInt8} {k : Nat} (h : k < s.length) : s.take (k + 1) = s.take k ++ [s.getD k 0] := by
  rw [List.take_succ_eq_append_getElem h]; simp [List.getD, h]
theorem sum_okR (v : Value) (xs : List UInt8) (w : World) (hv : By w v xs) :
    Ret Tryz.prog 139 ⟨[v]⟩ w fun r w' => r = .int .u64 (hSum xs) ∧ Ext w w' := by
  have hbd := hv.bound
  rw [bysC_len] at hbd
  refine ret_of_G Tryz.func139 rfl Tryz.ntmps139 rfl ?_
  simp only [argEnv]
  refine rn ?_
  rw [bysC_len]
  refine rn ?_
  refine (G.loop (fun k : Nat => [(6, none, v), (7, none, .int .i64 xs.length), (3, none, .int .u64 (hSum (xs.take k))), (8, none, .int .i64 k)]) (fun k w' => w' = w ∧ k ≤ xs.length) (fun k => xs.length - k) 0 (by repeat (first | exact Sub.nil _ | refine Sub.cons rfl ?_)) ⟨rfl, by omega⟩ ?_)
  rintro k w2 ⟨rfl, hk⟩
  refine rn ?_
  first | refine G.condD rfl (fun hc => ?_) (fun hc => ?_) | refine G.condN rfl (fun hc => ?_) (fun hc => ?_) | refine G.cond rfl (fun hc => ?_) (fun hc => ?_)
  · have hlt : k < xs.length := by omega
    have hget := bysC_get hlt
    refine rn ?_
    refine sIa tb k ?_ (hj := fun _ => ⟨rfl, by rw [bysC_len]; exact hlt⟩)
    refine rn ?_
    refine sCu tb ?_
    refine rn ?_
    refine sAr ?_
    refine rn ?_
    refine sAd tb ?_
    refine rn ?_
    exact G.lp (k + 1) (by rw [take_byR hlt, hSum_snoc]; exact (by repeat (first | exact Sub.nil _ | refine Sub.cons rfl ?_))) ⟨rfl, by omega⟩ (by omega)
  · have hke : k = xs.length := by omega
    subst hke
    refine rn ?_
    refine G.ret1 rfl rfl rfl rfl ?_
    exact ⟨by rw [List.take_length], Ext.refl _⟩
end Go.Proofs.YtmkckngecjpklaaGreatDoor
end
section
open Go Go.Vg Go.RowKit Go.Proofs Go.Proofs.YtmkckngecjpklaaGreatDoor
namespace Go.Proofs.YtmkckngecjpklaaGreatDoor
set_option linter.unusedSimpArgs false

/-- a hash put in -/
def hashV (ls : List Lab.Lab) (r : Rule) : List UInt8 := Num.decN (hSum (textR ls r) % r.mod)
theorem hStep_bd (h : Int) (c : UInt8) : 0 ≤ hStep h c ∧ hStep h c < 18446744073709551616 := by
  unfold hStep
  show 0 ≤ (_ : Int) % 18446744073709551616 ∧ (_ : Int) % 18446744073709551616 < _
  omega
theorem hSum_bd (l : List UInt8) : 0 ≤ hSum l ∧ hSum l < 18446744073709551616 := by
  unfold hSum
  suffices h : ∀ (l : List UInt8) (a : Int), 0 ≤ a ∧ a < 18446744073709551616 → 0 ≤ l.foldl hStep a ∧ l.foldl hStep a < 18446744073709551616 from h l _ (by decide)
  intro l
  induction l with
  | nil => intro a h; exact h
  | cons c r ih => intro a _; exact ih _ (hStep_bd a c)
set_option maxHeartbeats 1000000 in
theorem rule4_ok (v sv : Value) (ls : List Lab.Lab) (r : Rule) (t : Rx.T) (g : Nat) (w : World) (hv : Lab.Labs w v ls) (hso : Lab.sortedL ls) (hn : ls.length ≤ 1000) (hu : Srcs w r sv) (hz : RuleSz r)
    (hcm : Rx.comp r.re = .ok (t, g)) (ha : r.act = 4) (hm : 1 ≤ r.mod) (hm2 : r.mod ≤ 9223372036854775807) (hl : (textR ls r).length ≤ 100000) (hT : Tabs w) :
    Ret Tryz.prog 71 ⟨[v, .agg ⟨relC r sv⟩]⟩ w fun x w' => ∃ u, x = .tuple ⟨[u, .bool true]⟩ ∧ Upd w v ls w' u (putR ls r.tgt (hashV ls r)) ∧ Ext w w' := by
  obtain ⟨act, src, sep, re, mod, tgt, repl⟩ := r
  simp only at ha hm hm2
  subst ha
  refine ret_of_G Tryz.func71 rfl Tryz.ntmps71 rfl ?_
  simp only [argEnv]
  refine rn ?_
  refine sBox (fun W1 hb1 hs1 hx1 => ?_)
  refine rn ?_
  refine sBox (us := [.int .i64 4, sv, S sep, S re, .int .i64 mod, S tgt, S repl]) (fun W2 hb2 hs2 hx2 => ?_)
  have hx02 := hx1.trans hx2
  have hv2 := hv.to hx02
  have hu2 := hu.to hx02
  have hb12 := hb1.to hx2
  refine rn ?_
  refine sCall c66 (comp_ok W2 re (hT.to hx02) (by have := hz.re; show re.length ≤ _; simp only at this; omega)) ?_
  rintro _ W3 ⟨hx3, ⟨t', g', pb, hcm', hE, rfl⟩ | ⟨e, f, hcm', rfl⟩⟩
  rotate_left
  · rw [hcm] at hcm'; cases hcm'
  have hx03 := hx02.trans hx3
  refine rn ?_
  refine sAl tb ?_
  intro W4 hb4 hs4 hx4
  refine sSt tb ?_ (vs := [ptr pb]) (hv := rfl) (hb := hb4) (h1 := by simp [Value.oneCell', ptr])
  intro W5 hb5 hw5
  have hx35 : Ext W3 W5 := Below.wr hx4 hw5 (Nat.le_refl _)
  have hx05 := hx03.trans hx35
  have hb15 := hb12.to (hx3.trans hx35)
  have hb25 := hb2.to (hx3.trans hx35)
  have hv5 := hv.to hx05
  have hu5 := hu.to hx05
  refine rn ?_
  refine sCall c134 (text_okR v sv ls ⟨4, src, sep, re, mod, tgt, repl⟩ W5 hv5 hu5 hz.src (by omega)) ?_
  rintro _ W6 ⟨rfl, hx6⟩
  have hx06 := hx05.trans hx6
  have hb16 := hb15.to hx6
  have hb26 := hb25.to hx6
  have hv6 := hv5.to hx6
  have htz : tgt.length ≤ 2000 := hz.tgt
  have hbd := hSum_bd (textR ls ⟨4, src, sep, re, mod, tgt, repl⟩)
  have ehv : hashV ls ⟨4, src, sep, re, mod, tgt, repl⟩ = Num.decN (hSum (textR ls ⟨4, src, sep, re, mod, tgt, repl⟩) % mod) := rfl
  generalize textR ls ⟨4, src, sep, re, mod, tgt, repl⟩ = s at hl hbd ehv ⊢
  have hq1 := Int.emod_nonneg (hSum s) (show mod ≠ 0 by omega)
  have hq2 := Int.emod_lt_of_pos (hSum s) (show 0 < mod by omega)
  have hqt : (hSum s).tmod mod = hSum s % mod := Int.tmod_eq_emod_of_nonneg hbd.1
  rw [ehv]
  generalize hSum s % mod = q at hq1 hq2 hqt
  have hdl : (Num.decN q).length ≤ 21 := by
    unfold Num.decN
    have := Num.digF_len 19 q.natAbs
    split
    · simp only [List.length_cons]; omega
    · omega
  refine rn ?_
  have hzW : w.heap.size + 2 ≤ W6.drew.heap.size := by
    have h1 := (Ext.drew W6).size
    have h2 := hx6.size
    have h3 := hx35.size
    have h4 := hx3.size
    omega
  have hx0d := hx06.drew'
  have hb1d := hb16.to (Ext.drew W6)
  have hb2d := hb26.to (Ext.drew W6)
  have hvd := hv6.to (Ext.drew W6)
  have hTd := hT.to hx0d
  refine G.regionG (fun w' => Bx w' W1.heap.size [.int .i64 4, sv, S sep, S re, .int .i64 mod, S tgt, S repl]) mixed hb2d ?_
  generalize W6.drew = W at hzW hx0d hb1d hb2d hvd hTd ⊢
  refine GD.join [11, 10, 9, 8, 7, 6, 5, 4, 3, 2, 1, 0] (fun _ : Unit => [(2, none, ptr w.heap.size), (67, none, v), (69, none, S tgt), (78, none, S (Num.decN q))]) (fun _ w' => Ext W w') ?_ fun meet => ?_
  · rintro _ Wa hxa
    have hxa : Ext W Wa := hxa
    refine GD.steps ([(12, false), (13, false)]) (by kernel_rfl) (by kernel_rfl) rfl ?_
    refine GM.eff (Step.callF rfl rfl rfl c79 rfl (put_okR v ls tgt (Num.decN q) Wa (hvd.to hxa) hso hn (by show _ ≤ _; omega) (by show _ ≤ _; omega) (hTd.to hxa)) ?_)
    rintro pv Wb hps
    have hp := hps.labs (hvd.to hxa)
    have hxb := hps.2
    have hxab := hxa.trans hxb
    refine ⟨hb2d.to hxab, ?_⟩
    have hbs := hb1d.to hxab
    refine GM.eff (Step.store0 tb rfl (Op1.of rfl (by first | exact fun _ => rfl | exact fun h => h | exact fun h => bL h | exact fun h => bL (bL h) | exact fun h => bL (bL (bL h)))) (Op1.of rfl (by first | exact fun _ => rfl | exact fun h => h | exact fun h => bL h | exact fun h => bL (bL h) | exact fun h => bL (bL (bL h)))) rfl (hp.cells) rfl (by simp [hp.one]) hbs rfl ?_)
    intro Wc hbc hwc
    have hx0c : Ext w Wc := Below.wr (hx0d.trans hxab) hwc (Nat.le_refl _)
    refine ⟨(hb2d.to hxab).wr hwc (by omega), ?_⟩
    refine GM.nil ?_
    refine GD.done (by kernel_rfl) ?_
    refine rn ?_
    refine G.ret2 rfl rfl rfl rfl rfl ?_
    refine ⟨_, rfl, ?_, hx0c⟩
    rcases hps.1 with ⟨rfl, h0⟩ | ho
    · exact .inl ⟨rfl, h0⟩
    · exact .inr (Owns.mono (Owns.wr ho hwc (by have := hxa.size; omega)) (by have := hxa.size; omega))
  · have hrem : ∀ w', (fun w' => Bx w' W1.heap.size [.int .i64 4, sv, S sep, S re, .int .i64 mod, S tgt, S repl]) w' → True := fun _ _ => trivial
    refine GD.steps ([(1, true), (2, true), (3, true), (6, true), (7, true), (8, true)]) (by kernel_rfl) (by kernel_rfl) rfl ?_
    refine rd ?_
    refine dLd tb (u := S tgt) ?_ (hc := fun w' hS _ => Bx.ci hS (by exact rfl))
    refine rd ?_
    refine dLd tb (u := .int .i64 mod) ?_ (hc := fun w' hS _ => Bx.ci hS (by exact rfl))
    refine rd ?_
    refine dCv tb (r := mod) ?_ (hr := wrap_u64 (by omega) (by omega))
    refine GM.nil ?_
    refine GD.two (0) (4) (by kernel_rfl) (by kernel_rfl) rfl rfl ?_ ?_
    · refine (Step.load1 tb rfl (Op1.of rfl (by first | exact fun _ => rfl | exact fun h => h | exact fun h => bL h | exact fun h => bL (bL h) | exact fun h => bL (bL (bL h)))) rfl rfl (fun _ => hb1d.cells.one) rfl ?_)
      refine ⟨hb2d, ?_⟩
      refine GD.steps ([(4, false), (5, false), (9, true), (10, true), (11, false)]) (by kernel_rfl) (by kernel_rfl) rfl ?_
      refine GM.eff (Step.strBytesF tb rfl (Op1.of rfl (by first | exact fun _ => rfl | exact fun h => h | exact fun h => bL h | exact fun h => bL (bL h) | exact fun h => bL (bL (bL h)))) rfl rfl rfl rfl ?_)
      intro bv Wa hfa hxa
      refine ⟨hb2d.to hxa, ?_⟩
      refine GM.eff (Step.callF rfl rfl rfl c139 rfl (sum_okR bv s Wa (hfa.sli (by omega))) ?_)
      rintro _ Wb ⟨rfl, hxb⟩
      have hxab := hxa.trans hxb
      refine ⟨hb2d.to hxab, ?_⟩
      refine GM.read (fun _ _ => Step.rem rfl (Op1.of rfl (by first | exact fun _ => rfl | exact fun h => h | exact fun h => bL h | exact fun h => bL (bL h) | exact fun h => bL (bL (bL h)))) (Op1.of rfl (by first | exact fun _ => rfl | exact fun h => h | exact fun h => bL h | exact fun h => bL (bL h) | exact fun h => bL (bL (bL h)))) (fun _ => by omega) hqt rfl ⟨rfl, rfl⟩) rfl rfl ?_
      refine dCv tb (r := q) ?_
      refine GM.eff (Step.callF rfl rfl rfl c138 rfl (Num.intText_ok q Wb (by omega) (by omega)) ?_)
      rintro _ Wc ⟨rfl, hxc⟩
      have hxac := hxab.trans hxc
      refine ⟨hb2d.to hxac, ?_⟩
      refine GM.nil ?_
      exact meet () _ _ _ rfl rfl (by repeat (first | exact Sub.nil _ | refine Sub.cons rfl ?_)) hxac
    · refine (Step.strBytesF tb rfl (Op1.of rfl (by first | exact fun _ => rfl | exact fun h => h | exact fun h => bL h | exact fun h => bL (bL h) | exact fun h => bL (bL (bL h)))) rfl rfl rfl rfl ?_)
      intro bv Wa hfa hxa
      refine ⟨hb2d.to hxa, ?_⟩
      refine GD.two (0) (5) (by kernel_rfl) (by kernel_rfl) rfl rfl ?_ ?_
      · refine (Step.load1 tb rfl (Op1.of rfl (by first | exact fun _ => rfl | exact fun h => h | exact fun h => bL h | exact fun h => bL (bL h) | exact fun h => bL (bL (bL h)))) rfl rfl (fun _ => (hb1d.to hxa).cells.one) rfl ?_)
        refine ⟨hb2d.to hxa, ?_⟩
        refine GD.steps ([(5, false), (9, true), (10, true), (11, false)]) (by kernel_rfl) (by kernel_rfl) rfl ?_
        refine GM.eff (Step.callF rfl rfl rfl c139 rfl (sum_okR bv s Wa (hfa.sli (by omega))) ?_)
        rintro _ Wb ⟨rfl, hxb⟩
        have hxab := hxa.trans hxb
        refine ⟨hb2d.to hxab, ?_⟩
        refine GM.read (fun _ _ => Step.rem rfl (Op1.of rfl (by first | exact fun _ => rfl | exact fun h => h | exact fun h => bL h | exact fun h => bL (bL h) | exact fun h => bL (bL (bL h)))) (Op1.of rfl (by first | exact fun _ => rfl | exact fun h => h | exact fun h => bL h | exact fun h => bL (bL h) | exact fun h => bL (bL (bL h)))) (fun _ => by omega) hqt rfl ⟨rfl, rfl⟩) rfl rfl ?_
        refine dCv tb (r := q) ?_
        refine GM.eff (Step.callF rfl rfl rfl c138 rfl (Num.intText_ok q Wb (by omega) (by omega)) ?_)
        rintro _ Wc ⟨rfl, hxc⟩
        have hxac := hxab.trans hxc
        refine ⟨hb2d.to hxac, ?_⟩
        refine GM.nil ?_
        exact meet () _ _ _ rfl rfl (by repeat (first | exact Sub.nil _ | refine Sub.cons rfl ?_)) hxac
      · refine (Step.callF rfl rfl rfl c139 rfl (sum_okR bv s Wa (hfa.sli (by omega))) ?_)
        rintro _ Wb ⟨rfl, hxb⟩
        have hxab := hxa.trans hxb
        refine ⟨hb2d.to hxab, ?_⟩
        refine GD.steps ([(9, true), (10, true)]) (by kernel_rfl) (by kernel_rfl) rfl ?_
        refine GM.read (fun _ _ => Step.rem rfl (Op1.of rfl (by first | exact fun _ => rfl | exact fun h => h | exact fun h => bL h | exact fun h => bL (bL h) | exact fun h => bL (bL (bL h)))) (Op1.of rfl (by first | exact fun _ => rfl | exact fun h => h | exact fun h => bL h | exact fun h => bL (bL h) | exact fun h => bL (bL (bL h)))) (fun _ => by omega) hqt rfl ⟨rfl, rfl⟩) rfl rfl ?_
        refine dCv tb (r := q) ?_
        refine GM.nil ?_
        refine GD.two (0) (11) (by kernel_rfl) (by kernel_rfl) rfl rfl ?_ ?_
        · refine (Step.load1 tb rfl (Op1.of rfl (by first | exact fun _ => rfl | exact fun h => h | exact fun h => bL h | exact fun h => bL (bL h) | exact fun h => bL (bL (bL h)))) rfl rfl (fun _ => (hb1d.to hxab).cells.one) rfl ?_)
          refine ⟨hb2d.to hxab, ?_⟩
          refine GD.steps ([(11, false)]) (by kernel_rfl) (by kernel_rfl) rfl ?_
          refine GM.eff (Step.callF rfl rfl rfl c138 rfl (Num.intText_ok q Wb (by omega) (by omega)) ?_)
          rintro _ Wc ⟨rfl, hxc⟩
          have hxac := hxab.trans hxc
          refine ⟨hb2d.to hxac, ?_⟩
          refine GM.nil ?_
          exact meet () _ _ _ rfl rfl (by repeat (first | exact Sub.nil _ | refine Sub.cons rfl ?_)) hxac
        · refine (Step.callF rfl rfl rfl c138 rfl (Num.intText_ok q Wb (by omega) (by omega)) ?_)
          rintro _ Wc ⟨rfl, hxc⟩
          have hxac := hxab.trans hxc
          refine ⟨hb2d.to hxac, ?_⟩
          refine GD.steps ([(0, false)]) (by kernel_rfl) (by kernel_rfl) rfl ?_
          refine GM.eff ?_
          refine (Step.load1 tb rfl (Op1.of rfl (by first | exact fun _ => rfl | exact fun h => h | exact fun h => bL h | exact fun h => bL (bL h) | exact fun h => bL (bL (bL h)))) rfl rfl (fun _ => (hb1d.to hxac).cells.one) rfl ?_)
          refine ⟨hb2d.to hxac, ?_⟩
          refine GM.nil ?_
          exact meet () _ _ _ rfl rfl (by repeat (first | exact Sub.nil _ | refine Sub.cons rfl ?_)) hxac
end Go.Proofs.YtmkckngecjpklaaGreatDoor
end
section
open Go Go.Vg Go.RowKit Go.Proofs Go.Proofs.YtmkckngecjpklaaGreatDoor
namespace Go.Proofs.YtmkckngecjpklaaGreatDoor
set_option linter.unusedSimpArgs false

namespace Num
theorem dig_at : ∀ n : Nat, n < 10 → dig (byI (48 + (n : Int))) = true := by decide
theorem byI_nat : ∀ n : Nat, n < 10 → (byI (48 + (n : Int))).toNat = 48 + n := by decide
theorem pow_ten {f n : Nat} (h : n < 10 ^ (f + 2)) : n / 10 < 10 ^ (f + 1) := by
  rw [Nat.pow_succ] at h
  exact Nat.div_lt_of_lt_mul (by rw [Nat.mul_comm]; exact h)
theorem digF_dig : ∀ (f n : Nat), n < 10 ^ (f + 1) → ∀ b ∈ digF f n, dig b = true
  | 0, n, h, b, hb => by
    simp only [digF, List.mem_cons, List.not_mem_nil, or_false] at hb
    subst hb
    exact dig_at n (by simpa using h)
  | f + 1, n, h, b, hb => by
    simp only [digF] at hb
    split at hb
    · rename_i h10
      simp only [List.mem_cons, List.not_mem_nil, or_false] at hb
      subst hb
      exact dig_at n h10
    · rcases List.mem_append.1 hb with h1 | h1
      · exact digF_dig f (n / 10) (pow_ten h) b h1
      · simp only [List.mem_cons, List.not_mem_nil, or_false] at h1
        subst h1
        exact dig_at _ (Nat.mod_lt _ (by decide))
theorem digF_ne : ∀ (f n : Nat), digF f n ≠ []
  | 0, n => by simp [digF]
  | f + 1, n => by
    simp only [digF]
    split <;> simp
theorem digF_head : ∀ (f n : Nat), n < 10 ^ (f + 1) → n ≠ 0 → ((digF f n).getD 0 0).toNat ≠ 48
  | 0, n, h, h0 => by
    have := byI_nat n (by simpa using h)
    simp only [digF, List.getD_cons_zero, this]
    omega
  | f + 1, n, h, h0 => by
    simp only [digF]
    split
    · rename_i h10
      have := byI_nat n h10
      simp only [List.getD_cons_zero, this]
      omega
    · have ih := digF_head f (n / 10) (pow_ten h) (by omega)
      obtain ⟨c, r, e⟩ := List.exists_cons_of_ne_nil (digF_ne f (n / 10))
      rw [e] at ih ⊢
      exact ih
theorem valid_ascii : ∀ (l : List UInt8), (∀ b ∈ l, b.toNat < 128) → Lib.validD l = true
  | [], _ => Lib.validD_nil
  | b :: r, h => by
    have hb := h b (by simp)
    have e : Lib.decodeL (b :: r) = (b.toNat, 1) := by
      rw [Lib.decodeL_N]
      show Lib.decodeN _ b.toNat _ _ _ = _
      unfold Lib.decodeN
      rw [if_pos hb]
    rw [Lib.validD_step _ (by simp), e, if_neg (by simp only; omega)]
    exact valid_ascii r (fun c hc => h c (by simp [hc]))
theorem dig_lt {b : UInt8} (h : dig b = true) : 48 ≤ b.toNat ∧ b.toNat ≤ 57 := by
  unfold dig rngC at h
  simp only [Bool.and_eq_true, decide_eq_true_eq] at h
  omega
theorem intL_app : ∀ (a b : List UInt8) (n : Int), intL n (a ++ b) = (intL n a).bind fun m => intL m b
  | [], b, n => rfl
  | c :: r, b, n => by
    simp only [List.cons_append, intL]
    split
    · rfl
    · exact intL_app r b _
theorem td_le (d : Nat) (h : d ≤ 9) : (-9223372036854775808 + (d : Int)).tdiv 10 ≤ -922337203685477579 := by
  have e : (-9223372036854775808 + (d : Int)) = -(9223372036854775808 - (d : Int)) := by omega
  rw [e, Int.neg_tdiv, Int.tdiv_eq_ediv_of_nonneg (by omega)]
  omega
theorem intL_one (m : Int) (n : Nat) (h : n < 10) (hm : -922337203685477579 ≤ m) : intL m [byI (48 + (n : Int))] = some (10 * m - n) := by
  have e := byI_nat n h
  simp only [intL, e]
  have := td_le n (by omega)
  have e2 : (((48 + n : Nat) : Int) - 48) = (n : Int) := by omega
  rw [e2, if_neg (by omega)]
theorem intL_dig : ∀ (f n : Nat), n < 10 ^ (f + 1) → n ≤ 922337203685477579 → intL 0 (digF f n) = some (-(n : Int))
  | 0, n, h, h2 => by
    simp only [digF]
    rw [intL_one 0 n (by simpa using h) (by omega)]
    congr 1; omega
  | f + 1, n, h, h2 => by
    simp only [digF]
    split
    · rename_i h10
      rw [intL_one 0 n h10 (by omega)]
      congr 1; omega
    · rw [intL_app, intL_dig f (n / 10) (pow_ten h) (by omega)]
      simp only [Option.bind_some]
      rw [intL_one _ (n % 10) (Nat.mod_lt _ (by decide)) (by omega)]
      congr 1; omega
theorem tw_all {p : UInt8 → Bool} : ∀ (l : List UInt8), (∀ b ∈ l, p b = true) → l.takeWhile p = l
  | [], _ => rfl
  | b :: r, h => by rw [List.takeWhile_cons, h b (by simp), if_pos rfl, tw_all r fun c hc => h c (by simp [hc])]
theorem decN_int {n : Int} (h0 : 0 ≤ n) (h1 : n ≤ 922337203685477579) : intP (decN n) = some n := by
  have ed : decN n = digF 19 n.natAbs := by unfold decN; rw [if_neg (by omega)]
  have hN : n.natAbs < 10 ^ (19 + 1) := by
    have : (922337203685477580 : Nat) ≤ 10 ^ 20 := by decide
    omega
  have hd := digF_dig 19 n.natAbs hN
  have hi := intL_dig 19 n.natAbs hN (by omega)
  have hh := digF_head 19 n.natAbs hN
  have hz : n.natAbs = 0 → digF 19 n.natAbs = [48] := by intro h; rw [h]; rfl
  rw [ed]
  generalize digF 19 n.natAbs = l at hd hi hh hz
  obtain ⟨c, r, e⟩ : ∃ c r, l = c :: r := List.exists_cons_of_ne_nil (by
    rintro rfl
    have h : n.natAbs = 0 := by simp [intL] at hi; omega
    cases hz h)
  have hp : Lib.hasPrefix l [45] = false := by
    have := dig_lt (hd c (by simp [e]))
    rcases h : Lib.hasPrefix l [45] with _ | _
    · rfl
    · have h2 := (List.isPrefixOf_iff_prefix.1 h)
      rw [e] at h2
      obtain ⟨t, ht⟩ := h2
      simp only [List.cons_append, List.nil_append, List.cons.injEq] at ht
      rw [← ht.1] at this
      exact absurd this (by decide)
  have hr : restP l = l := by unfold restP; rw [hp]; rfl
  have hrun : runP l = l.length := by
    unfold runP
    rw [tw_all l hd]
  have hb : badP l = false := by
    unfold badP
    rw [hr, hrun]
    have h2 : decide (l = []) = false := by rw [e]; rfl
    rw [h2]
    by_cases h : n.natAbs = 0
    · rw [hz h]; decide
    · have h3 : decide (((l.getD 0 0).toNat : Int) = 48) = false := decide_eq_false (by have := hh h; omega)
      rw [h3]; simp
  unfold intP
  rw [hb, hr, hi, hp]
  simp only [Bool.false_eq_true, if_false]
  rw [if_neg (by omega)]
  congr 1; omega
end Num
namespace Lab
theorem get_app {A B : List Lab} {n : List UInt8} (h : ∀ y ∈ A, y.1 ≠ n) : getL (A ++ B) n = getL B n := by
  induction A with
  | nil => rfl
  | cons a r ih =>
    simp only [List.cons_append, getL]
    rw [if_neg (h a (by simp))]
    exact ih fun y hy => h y (by simp [hy])
theorem get_with {ls : List Lab} {n v : List UInt8} (hv : v ≠ []) : getL (withS ls n v) n = v := by
  unfold withS
  rw [if_neg hv]
  unfold putL
  rw [get_app]
  · simp [getL]
  · intro y hy e
    have := List.all_eq_true.1 (List.all_takeWhile (p := fun y : Lab => Op.bytesLess y.1 n)) y hy
    rw [e] at this
    simp [bl_irrefl] at this
theorem with_len (ls : List Lab) (n v : List UInt8) : (withS ls n v).length ≤ ls.length + 1 := by
  have h1 : (woL ls n).length ≤ ls.length := by
    unfold woL pickL
    exact List.length_filter_le _ _
  unfold withS
  split
  · omega
  · unfold putL
    have := congrArg List.length (List.takeWhile_append_dropWhile (p := fun y : Lab => Op.bytesLess y.1 n) (l := woL ls n))
    rw [List.length_append] at this
    rw [List.length_append, List.length_cons]
    simp only at this ⊢
    omega
end Lab
/-- a set in order whose texts are not too long -/
def InvL (ls : List Lab.Lab) : Prop := Lab.sortedL ls ∧ ls.length ≤ 64 ∧ ∀ x ∈ ls, x.2.length ≤ 1024
theorem right_inv {ls : List Lab.Lab} (h : Lab.rightB ls = true) : InvL ls :=
  ⟨right_sorted h, right_len h, fun x hx => (Lab.fair_len ((Lab.right_fair h).1 x hx).1).2⟩
theorem with_mem {ls : List Lab.Lab} {n v : List UInt8} {x : Lab.Lab} (h : x ∈ Lab.withS ls n v) : x ∈ ls ∨ x = (n, v) := by
  have hw : ∀ y, y ∈ Lab.woL ls n → y ∈ ls := fun y hy => by
    unfold Lab.woL Lab.pickL at hy
    exact (List.mem_filter.1 hy).1
  unfold Lab.withS at h
  split at h
  · exact .inl (hw _ h)
  · unfold Lab.putL at h
    rcases List.mem_append.1 h with h | h
    · exact .inl (hw _ ((List.takeWhile_sublist _).subset h))
    · rcases List.mem_cons.1 h with h | h
      · exact .inr h
      · exact .inl (hw _ ((List.dropWhile_sublist _).subset h))
theorem with_sorted {ls : List Lab.Lab} {n v : List UInt8} (h : Lab.sortedL ls) : Lab.sortedL (Lab.withS ls n v) := by
  have hw : Lab.sortedL (Lab.woL ls n) := by
    unfold Lab.woL Lab.pickL Lab.sortedL
    exact List.Pairwise.sublist List.filter_sublist h
  unfold Lab.withS
  split
  · exact hw
  · exact Lab.putL_sorted hw
theorem putR_inv {ls : List Lab.Lab} {n v : List UInt8} (h : InvL ls) : InvL (putR ls n v) := by
  unfold putR
  split
  · exact h
  · rename_i hb
    split
    · exact h
    · rename_i hl
      refine ⟨with_sorted h.1, by omega, fun x hx => ?_⟩
      rcases with_mem hx with hx | rfl
      · exact h.2.2 x hx
      · simp only [badP, Bool.or_eq_true, decide_eq_true_eq, not_or] at hb
        show v.length ≤ 1024
        omega
theorem inv_get {ls : List Lab.Lab} (h : InvL ls) (n : List UInt8) : (Lab.getL ls n).length ≤ 1024 := by
  have hf := h.2.2
  clear h
  induction ls with
  | nil => simp [Lab.getL]
  | cons x r ih =>
    rw [Lab.getL]
    split
    · exact hf x (by simp)
    · exact ih fun y hy => hf y (by simp [hy])
theorem inv_text {ls : List Lab.Lab} (h : InvL ls) (r : Rule) (h1 : r.src.length ≤ 4) (h2 : r.sep.length ≤ 10) : (textR ls r).length ≤ 100000 := by
  unfold textR wordsR
  have := lens_bd (r.src.map (Lab.getL ls)) r.sep 1024 (fun s hs => by
    obtain ⟨n, _, rfl⟩ := List.mem_map.1 hs
    exact inv_get h n)
  rw [List.length_map] at this
  have h3 : r.src.length * (1024 + r.sep.length) ≤ 4 * (1024 + 10) := Nat.mul_le_mul h1 (by omega)
  omega
theorem comp_nil : ∃ t g, Rx.comp [] = .ok (t, g) := ⟨_, _, rfl⟩
/-- the rule that puts the hash of some labels in -/
def hashRule (src : List (List UInt8)) (m : Int) : Rule := ⟨4, src, [59], [], m, [122, 122], []⟩
theorem hash_put {s : List Lab.Lab} {n : Int} (h0 : 0 ≤ n) (h1 : n ≤ 922337203685477579) (hs : s.length ≤ 60) :
    Num.intP (Lab.getL (putR s [122, 122] (Num.decN n)) [122, 122]) = some n := by
  have ed : Num.decN n = Num.digF 19 n.natAbs := by unfold Num.decN; rw [if_neg (by omega)]
  have hN : n.natAbs < 10 ^ (19 + 1) := by
    have : (922337203685477580 : Nat) ≤ 10 ^ 20 := by decide
    omega
  have hd := Num.digF_dig 19 n.natAbs hN
  have hne := Num.digF_ne 19 n.natAbs
  have hl := Num.digF_len 19 n.natAbs
  have hb : badP [122, 122] (Num.decN n) = false := by
    rw [ed]
    unfold badP
    rw [Num.valid_ascii _ (fun b hb => by have := Num.dig_lt (hd b hb); omega), decide_eq_false (p := (1024 : Int) < _) (by omega)]
    rfl
  unfold putR
  rw [hb, if_neg (by simp), if_neg (by have := Lab.with_len s [122, 122] (Num.decN n); omega), Lab.get_with (by rw [ed]; exact hne), Num.decN_int h0 h1]
/-- one rule that puts a hash in -/
theorem rel_hash (v us sv : Value) (s : List Lab.Lab) (r : Rule) (t : Rx.T) (g : Nat) (w : World) (hv : Lab.Labs w v s) (hs : InvL s) (hu : Sli w us 7 ([(r, sv)].map relC2)) (hsr : Srcs w r sv) (hz : RuleSz r) (hr : rightR r = true)
    (hcm : Rx.comp r.re = .ok (t, g)) (ha : r.act = 4) (hm : 1 ≤ r.mod) (hm2 : r.mod ≤ 9223372036854775807) (h1 : r.src.length ≤ 4) (h2 : r.sep.length ≤ 10) (hT : Tabs w) :
    Ret Tryz.prog 32 ⟨[v, us]⟩ w fun x w' => ∃ u, x = .tuple ⟨[u, .bool true]⟩ ∧ Lab.LO w' w.heap.size u (putR s r.tgt (hashV s r)) ∧ Ext w w' := by
  refine Calls.mono (relabel_ok (fun r ls => (putR ls r.tgt (hashV ls r), true)) InvL v us s [(r, sv)] w hv hs (by have := hs.2.1; omega) hu (fun p hp => ?_) hT) ?_
  · simp only [List.mem_cons, List.not_mem_nil, or_false] at hp
    subst hp
    refine ⟨hsr, hz, fun W v' cur _ hx hi hv' => ?_⟩
    exact ⟨rule4_ok v' sv cur r t g W hv' hi.1 (by have := hi.2.1; omega) (hsr.to hx) hz hcm ha hm hm2 (inv_text hi r h1 h2) (hT.to hx), fun _ => putR_inv hi⟩
  · rintro e w' ⟨x, he, u, h1, h2, h3⟩
    have e0 : relF (fun r ls => (putR ls r.tgt (hashV ls r), true)) ([(r, sv)].map (·.1)) s = (putR s r.tgt (hashV s r), true) := by
      simp only [List.map_cons, List.map_nil, relF, hr, if_true]
    rw [e0] at h1 h2
    exact ⟨x, he, u, h1, h2, h3⟩
theorem text_alike {a b : List Lab.Lab} {r : Rule} (h : ∀ s ∈ r.src, Lab.getL a s = Lab.getL b s) : textR a r = textR b r := by
  unfold textR wordsR
  rw [List.map_congr_left h]
end Go.Proofs.YtmkckngecjpklaaGreatDoor
end
section
open Go Go.Vg Go.RowKit Go.Proofs Go.Proofs.YtmkckngecjpklaaGreatDoor
namespace Go.Proofs.YtmkckngecjpklaaGreatDoor
set_option linter.unusedSimpArgs false

set_option maxHeartbeats 4000000 in
theorem hashes_law (va vb su : Value) (a b : List Lab.Lab) (ss : List (List UInt8)) (md : Int) (w : World) (ha : Lab.Labs w va a) (hza : ∀ x ∈ a, Lab.LabSz x) (hb : Lab.Labs w vb b) (hzb : ∀ x ∈ b, Lab.LabSz x)
    (hu : Sli w su 1 (ss.map strC)) (hss : ∀ s ∈ ss, Lab.Sz s) (_ : I64 md) (hT : Tabs w) :
    Ret Tryz.prog 6 ⟨[.agg ⟨[va, vb, su, .int .i64 md]⟩]⟩ w fun x w' => x = .bool true ∧ Ext w w' := by
  refine ret_of_G Tryz.func6 rfl Tryz.ntmps6 rfl ?_
  simp only [argEnv]
  refine rn ?_
  refine sBox (us := [va, vb, su, .int .i64 md]) (fun W1 hb1 hs1 hx1 => ?_)
  refine rn ?_
  refine G.regionG (Ext W1.drew) mixed (Ext.refl _) ?_
  have hx1 := hx1.drew'
  have hb1 := hb1.to (Ext.drew W1)
  generalize W1.drew = W at hx1 hb1
  refine GD.steps ([(0, true), (1, true), (2, true), (3, true), (4, true), (5, true), (6, true), (7, true), (8, true), (9, true), (10, true), (11, true)]) (by kernel_rfl) (by kernel_rfl) rfl ?_
  refine rd ?_
  refine GM.nil ?_
  refine GD.done (by kernel_rfl) ?_
  refine rn ?_
  refine sCall c12 (Lab.setS_ok _ a W (ha.to hx1) hza) ?_
  rintro vx W2 ⟨hox, hx2⟩
  have hrx := Lab.setS_right a
  have hox : Lab.LO W2 W.heap.size vx (Lab.setS a) := hox
  generalize Lab.setS a = x at hrx hox
  have hx02 := hx1.trans hx2
  refine rn ?_
  refine sCall c12 (Lab.setS_ok _ b W2 (hb.to hx02) hzb) ?_
  rintro vy W3 ⟨hoy, hx3⟩
  have hry := Lab.setS_right b
  have hoy : Lab.LO W3 W2.heap.size vy (Lab.setS b) := hoy
  generalize Lab.setS b = y at hry hoy
  have hx03 := hx02.trans hx3
  have hlx := (Owns.to hox hx3).sli
  have hly := hoy.sli
  have hlx : Lab.Labs W3 vx x := hlx
  have hly : Lab.Labs W3 vy y := hly
  have hu3 := hu.to hx03
  clear hox hoy hb1 hs1 hx1 hx2 hx3 hx02
  refine rn ?_
  rw [List.length_map]
  refine rn ?_
  refine (G.join (fun sv' : Value => [(5, none, sv'), (6, none, .int .i64 md), (7, none, vx), (8, none, vy)]) (fun sv' w' => w' = W3 ∧ Sli W3 sv' 1 ((ss.take 4).map strC)) (fun sv' W4 hW4 => ?_) ?_)
  rotate_left
  · first | refine G.condD rfl (fun hc => ?_) (fun hc => ?_) | refine G.condN rfl (fun hc => ?_) (fun hc => ?_) | refine G.cond rfl (fun hc => ?_) (fun hc => ?_)
    · refine rn ?_
      refine GL.cons (Step.sliceVh tb 4 rfl (Op1.of rfl (by first | exact fun _ => rfl | exact fun h => h | exact fun h => bL h | exact fun h => bL (bL h) | exact fun h => bL (bL (bL h)))) (Op1.of rfl (by first | exact fun _ => rfl | exact fun h => h | exact fun h => bL h | exact fun h => bL (bL h) | exact fun h => bL (bL (bL h)))) rfl rfl (fun _ => ⟨_, hu3⟩) (fun _ => ⟨rfl, by rw [List.length_map]; omega⟩) rfl ?_)
      have h9 := hu3.sub (l := 0) (h := 4) (by omega) (by rw [List.length_map]; omega)
      rw [List.drop_zero] at h9
      have e4 : (ss.map strC).take (4 - 0) = (ss.take 4).map strC := by rw [List.map_take]
      rw [e4] at h9
      refine rn ?_
      exact G.met _ (by repeat (first | exact Sub.nil _ | refine Sub.cons rfl ?_)) ⟨rfl, h9⟩
    · have e : ss.take 4 = ss := List.take_of_length_le (by omega)
      refine rn ?_
      exact G.met _ (by repeat (first | exact Sub.nil _ | refine Sub.cons rfl ?_)) ⟨rfl, by rw [e]; exact hu3⟩
  obtain ⟨rfl, hu4⟩ := hW4
  have hq4 : (ss.take 4).length ≤ 4 := by rw [List.length_take]; omega
  have hqs : ∀ s ∈ ss.take 4, Lab.Sz s := fun s hs => hss s (List.mem_of_mem_take hs)
  generalize ss.take 4 = q at hu4 hq4 hqs
  clear hu3
  obtain ⟨a4, c4, rfl, -⟩ := hu4.len
  refine rn ?_
  refine sCall c37 (within_ok md 1099511627776 W4 (by decide) (by decide)) ?_
  rintro _ W5 ⟨rfl, rfl⟩
  have hm1 := Int.emod_nonneg md (show (1099511627776 : Int) ≠ 0 by decide)
  have hm2 := Int.emod_lt_of_pos md (show (0 : Int) < 1099511627776 by decide)
  generalize md % 1099511627776 = m0 at hm1 hm2
  refine rn ?_
  refine sAd tb (r := 1 + m0) ?_
  have hmm : 1 ≤ 1 + m0 ∧ 1 + m0 ≤ 1099511627776 := by omega
  generalize 1 + m0 = m at hmm
  refine rn ?_
  refine sAl tb (fun W6 hb6 hs6 hx6 => ?_)
  have hx06 := hx03.trans hx6
  refine sSt tb (vs := relC (hashRule q m) (.slice a4 _ c4)) (fun W7 hb7 hw7 => ?_) (hv := rfl) (hb := hb6) (h1 := relC_one (r := hashRule q m) hu4)
  have hx57 : Ext W5 W7 := Below.wr hx6 hw7 (Nat.le_refl _)
  have hx07 := hx03.trans hx57
  have hlx := hlx.to hx57
  have hly := hly.to hx57
  have hu7 : Srcs W7 (hashRule q m) (.slice a4 (q.map strC).length c4) := hu4.to hx57
  have hz : RuleSz (hashRule q m) := ⟨by show q.length ≤ 1000; omega, hqs, by show ([] : List UInt8).length ≤ 1000; decide, by show ([122, 122] : List UInt8).length ≤ 2000; decide, by show ([] : List UInt8).length ≤ 2000; decide, by show ([59] : List UInt8).length ≤ 1000; decide⟩
  clear hw7 hb6 hx6 hx06 hu4 hx57 hx03
  refine rn ?_
  refine sCall c29 (right_okR _ (hashRule q m) W7 hu7 hz (hT.to hx07)) ?_
  rintro _ W8 ⟨rfl, hx8⟩
  have hx08 := hx07.trans hx8
  have hlx := hlx.to hx8
  have hly := hly.to hx8
  have hb8 := hb7.to hx8
  have hu8 := hu7.to hx8
  refine rn ?_
  first | refine G.condD rfl (fun hc => ?_) (fun hc => ?_) | refine G.condN rfl (fun hc => ?_) (fun hc => ?_) | refine G.cond rfl (fun hc => ?_) (fun hc => ?_)
  · refine rn ?_
    refine sCall c16 (wakes_okS W8 (hT.to hx08)) ?_
    rintro _ W9 ⟨rfl, hx9⟩
    refine rn ?_
    refine G.ret1 rfl rfl rfl rfl ?_
    exact ⟨rfl, hx08.trans hx9⟩
  simp only [List.length_map, Bool.or_eq_false_iff, Bool.not_eq_false', decide_eq_false_iff_not] at hc
  obtain ⟨⟨hr, hnx⟩, hny⟩ := hc
  obtain ⟨t, g, hcm⟩ := comp_nil
  have hmr : 1 ≤ (hashRule q m).mod ∧ (hashRule q m).mod ≤ 9223372036854775807 := ⟨by show 1 ≤ m; omega, by show m ≤ _; omega⟩
  have hix := right_inv hrx
  have hiy := right_inv hry
  refine rn ?_
  refine sBs' tb ([(hashRule q m, .slice a4 (q.map strC).length c4)].map relC2) (fun u9 W9 ho9 hs9 hx9 => ?_) (hfill := by kernel_rfl) (hkl := by simp [relC2, relC])
  have hx09 := hx08.trans hx9
  have hlx9 := hlx.to hx9
  refine rn ?_
  refine sCall c32 (rel_hash vx u9 _ x (hashRule q m) t g W9 hlx9 hix ho9.sli (hu8.to hx9) hz hr hcm rfl hmr.1 hmr.2 hq4 (by show ([59] : List UInt8).length ≤ 10; decide) (hT.to hx09)) ?_
  rintro _ W10 ⟨up, rfl, hlp, hx10⟩
  have hx010 := hx09.trans hx10
  have hx810 := hx9.trans hx10
  have hlx := hlx.to hx810
  have hly := hly.to hx810
  have hu10 := hu8.to hx810
  have hb10 := hb8.to hx810
  have hlp : Lab.LO W10 W9.heap.size up (putR x [122, 122] (hashV x (hashRule q m))) := hlp
  refine rn ?_
  refine sBs' tb ([(hashRule q m, .slice a4 (q.map strC).length c4)].map relC2) (fun u11 W11 ho11 hs11 hx11 => ?_) (hfill := by kernel_rfl) (hkl := by simp [relC2, relC])
  have hx011 := hx010.trans hx11
  have hlp11 := (Owns.to hlp hx11)
  refine rn ?_
  refine sCall c32 (rel_hash vy u11 _ y (hashRule q m) t g W11 (hly.to hx11) hiy ho11.sli (hu10.to hx11) hz hr hcm rfl hmr.1 hmr.2 hq4 (by show ([59] : List UInt8).length ≤ 10; decide) (hT.to hx011)) ?_
  rintro _ W12 ⟨uq, rfl, hlq, hx12⟩
  have hx012 := hx011.trans hx12
  have hx1012 := hx11.trans hx12
  have hlp12 : Lab.Labs W12 up (putR x [122, 122] (hashV x (hashRule q m))) := (Owns.to hlp hx1012).sli
  have hlq12 : Lab.Labs W12 uq (putR y [122, 122] (hashV y (hashRule q m))) := hlq.sli
  have hlx := hlx.to hx1012
  have hly := hly.to hx1012
  have hu12 := hu10.to hx1012
  have hpx := inv_get (putR_inv (n := [122, 122]) (v := hashV x (hashRule q m)) hix) [122, 122]
  have hpy := inv_get (putR_inv (n := [122, 122]) (v := hashV y (hashRule q m)) hiy) [122, 122]
  have hkx1 := Int.emod_nonneg (hSum (textR x (hashRule q m))) (show m ≠ 0 by omega)
  have hkx2 := Int.emod_lt_of_pos (hSum (textR x (hashRule q m))) (show 0 < m by omega)
  have hky1 := Int.emod_nonneg (hSum (textR y (hashRule q m))) (show m ≠ 0 by omega)
  have hky2 := Int.emod_lt_of_pos (hSum (textR y (hashRule q m))) (show 0 < m by omega)
  have hpix : Num.intP (Lab.getL (putR x [122, 122] (hashV x (hashRule q m))) [122, 122]) = some (hSum (textR x (hashRule q m)) % m) := hash_put hkx1 (Int.le_trans (Int.le_of_lt hkx2) (by omega)) (by omega)
  have hpiy : Num.intP (Lab.getL (putR y [122, 122] (hashV y (hashRule q m))) [122, 122]) = some (hSum (textR y (hashRule q m)) % m) := hash_put hky1 (Int.le_trans (Int.le_of_lt hky2) (by omega)) (by omega)
  have hal : (∀ s ∈ q, Lab.getL x s = Lab.getL y s) → hSum (textR x (hashRule q m)) % m = hSum (textR y (hashRule q m)) % m := fun h => by rw [text_alike (r := hashRule q m) h]
  generalize hSum (textR x (hashRule q m)) % m = n at hkx1 hkx2 hpix hal
  generalize hSum (textR y (hashRule q m)) % m = k2 at hky1 hky2 hpiy hal
  generalize putR x [122, 122] (hashV x (hashRule q m)) = px at hlp12 hpx hpix
  generalize putR y [122, 122] (hashV y (hashRule q m)) = py at hlq12 hpy hpiy
  clear hlp11 hlp hlq hmr hcm hr hz hu8 hu10 hb8 hb10 hu7 hb7 ho9 ho11 hx1012 hx11 hx12 hx9 hx10
  refine rn ?_
  refine sCall c11 (Lab.refGet_ok up px [122, 122] W12 hlp12) ?_
  rintro _ W13 ⟨rfl, hx13⟩
  have hx013 := hx012.trans hx13
  have hi1 := Num.int_ok (Lab.getL px [122, 122]) W13 (by omega)
  rw [hpix] at hi1
  refine rn ?_
  refine sCall c38 (hi1) ?_
  rintro _ W14 ⟨rfl, rfl⟩
  refine rn ?_
  refine sCall c11 (Lab.refGet_ok uq py [122, 122] W14 (hlq12.to hx13)) ?_
  rintro _ W15 ⟨rfl, hx15⟩
  have hx015 := hx013.trans hx15
  have hi2 := Num.int_ok (Lab.getL py [122, 122]) W15 (by omega)
  rw [hpiy] at hi2
  refine rn ?_
  refine sCall c38 (hi2) ?_
  rintro _ W16 ⟨rfl, rfl⟩
  have hx1216 := hx13.trans hx15
  have hlx := hlx.to hx1216
  have hly := hly.to hx1216
  have hu16 : Sli W16 (.slice a4 (q.map strC).length c4) 1 (q.map strC) := hu12.to hx1216
  clear hi1 hi2 hpix hpiy hlp12 hlq12 hpx hpy hx1216 hx13 hx15 hx012 hx013 hu12 hx010 hx011 hx09
  refine rn ?_
  refine (G.loop (fun z : Bool × Nat => [(5, none, .slice a4 (q.map strC).length c4), (7, none, vx), (8, none, vy), (9, none, .int .i64 m), (12, none, .bool true), (14, none, .bool true), (15, none, .int .i64 n), (16, none, .int .i64 0), (17, none, .int .i64 k2), (18, none, .int .i64 0), (19, none, .bool z.1), (20, none, .int .i64 z.2)])
    (fun z W' => Ext W16 W' ∧ z.2 ≤ q.length ∧ (z.1 = true → ∀ s ∈ q.take z.2, Lab.getL x s = Lab.getL y s)) (fun z => q.length - z.2) (true, 0) (by repeat (first | exact Sub.nil _ | refine Sub.cons rfl ?_)) ⟨Ext.refl _, by simp, by simp⟩ ?_)
  rintro ⟨al, k⟩ W' ⟨hxW, hk, halk⟩
  simp only at hk halk ⊢
  refine rn ?_
  first | refine G.condD rfl (fun hc => ?_) (fun hc => ?_) | refine G.condN rfl (fun hc => ?_) (fun hc => ?_) | refine G.cond rfl (fun hc => ?_) (fun hc => ?_)
  · have hlt : k < q.length := by simp only [List.length_map] at hc; omega
    have hx0 := hx015.trans hxW
    have hlx := hlx.to hxW
    have hly := hly.to hxW
    have huW := hu16.to hxW
    refine rn ?_
    refine G.regionG (Ext W'.drew) mixed (Ext.refl _) ?_
    have hxY := hxW.drew'
    have hx0 := hx0.drew'
    have hlx := hlx.to (Ext.drew W')
    have hly := hly.to (Ext.drew W')
    have huY := huW.to (Ext.drew W')
    generalize W'.drew = Y at hxY hx0 hlx hly huY
    have hget : (q.map strC)[k]? = some (strC q[k]) := by simp [hlt]
    have hsn : q.take (k + 1) = q.take k ++ [q[k]] := List.take_succ_eq_append_getElem hlt
    have hstep : ∀ al', (al' = (al && decide (Lab.getL x q[k] = Lab.getL y q[k]))) → al' = true → ∀ s ∈ q.take (k + 1), Lab.getL x s = Lab.getL y s := by
      rintro al' rfl h s hs
      simp only [Bool.and_eq_true, decide_eq_true_eq] at h
      rw [hsn] at hs
      rcases List.mem_append.1 hs with hs | hs
      · exact halk h.1 s hs
      · simp only [List.mem_cons, List.not_mem_nil, or_false] at hs
        subst hs
        exact h.2
    refine GD.steps ([(0, true), (1, true), (2, true), (3, true), (4, true), (5, true), (6, true), (8, true), (9, true), (10, true), (11, true), (12, true), (7, false), (13, false), (14, true), (15, true), (16, true)]) (by kernel_rfl) (by kernel_rfl) rfl ?_
    try (refine mm tb ?_); repeat ((first | refine dFa tb ?_ | refine dLd tb ?_ | refine dLa tb ?_ | refine dLen tb ?_ | refine dFd tb ?_ | refine dIa tb k ?_); try (refine mm tb ?_))
    refine GM.eff (Step.callX (vs := [vx, S q[k]]) (v := S (Lab.getL x q[k])) rfl rfl ?_ ?_ ?_ (fun hc => ?_) ?_)
    · exact (by repeat (first | exact OpL.nil | refine OpL.cons (Op1.of rfl (by first | exact fun _ => rfl | exact fun h => h | exact fun h => bL h | exact fun h => bL (bL h) | exact fun h => bL (bL (bL h)))) ?_))
    · exact c11
    · rfl
    · exact Lab.refGet_ok vx x q[k] Y hlx
    intro Y1 hy1
    refine ⟨hy1, ?_⟩
    refine GM.eff (Step.callX (vs := [vy, S q[k]]) (v := S (Lab.getL y q[k])) rfl rfl ?_ ?_ ?_ (fun hc => ?_) ?_)
    · exact (by repeat (first | exact OpL.nil | refine OpL.cons (Op1.of rfl (by first | exact fun _ => rfl | exact fun h => h | exact fun h => bL h | exact fun h => bL (bL h) | exact fun h => bL (bL (bL h)))) ?_))
    · exact c11
    · rfl
    · exact Lab.refGet_ok vy y q[k] Y1 (hly.to hy1)
    intro Y2 hy2
    have hy := hy1.trans hy2
    refine ⟨hy, ?_⟩
    refine rd ?_
    refine GM.nil ?_
    refine GD.done (by kernel_rfl) ?_
    refine rn ?_
    refine sAd tb ?_
    refine rn ?_
    exact G.lp (x := (al, k)) (al && decide (Lab.getL x q[k] = Lab.getL y q[k]), k + 1) (by repeat (first | exact Sub.nil _ | refine Sub.cons rfl ?_)) ⟨hxY.trans hy, by simp only; omega, hstep _ rfl⟩ (by simp only; omega)
  · have hke : k = q.length := by simp only [List.length_map] at hc; omega
    rw [hke, List.take_length] at halk
    have hfin : al = true → n = k2 := fun h => hal (halk h)
    have hx0 := hx015.trans hxW
    refine rn ?_
    refine sCallx c16 (fun hc => wakes_okS W' (hT.to hx0)) ?_
    intro W17 hx17
    refine rn ?_
    refine G.ret1 rfl rfl rfl rfl ?_
    refine ⟨?_, hx0.trans hx17⟩
    congr 1
    cases al
    · simp
      omega
    · have := hfin rfl
      simp
      omega
end Go.Proofs.YtmkckngecjpklaaGreatDoor
end
section
open Go Go.Vg Go.RowKit Go.Proofs Go.Proofs.YtmkckngecjpklaaGreatDoor
namespace Go.Proofs.YtmkckngecjpklaaGreatDoor
set_option linter.unusedSimpArgs false
open Go.Lib Go.Shelf Go.ChangeShapes Go.WideShapes Go.ChangeAt
theorem open_lab1 {H : Type} {enc : TypeId × Value → H} {w : World} {sp : Nat → Bool} {hd : Bool} {b n : Nat} {v : Value} {x : DataW H × List MemPlace}
    (hval : OkW Tryz.prog w b 23 v) (h : DataW.trod enc Tryz.prog w 0 sp hd n 23 [v] = some x) : ∃ ls : List Lab.Lab, Lab.Labs w v ls ∧ ∀ x ∈ ls, Lab.LabSz x := by
  refine open_rows1 (t := 23) (e := 78) Lab.labC Lab.LabSz (tb.ok _ _ rfl) (by kernel_rfl) (fun n cs x hx => ?_) hval h
  obtain ⟨u0, u1, n, y0, y1, rfl, k0, k1⟩ := open_st2 (tb.ok _ _ rfl) (by kernel_rfl) rfl rfl (by kernel_rfl) (by kernel_rfl) hx
  obtain ⟨a, ha, hla⟩ := open_str (tb.ok _ _ rfl) k0
  obtain ⟨c, hc, hlc⟩ := open_str (tb.ok _ _ rfl) k1
  cases ha; cases hc
  exact ⟨(a, c), rfl, hla, hlc⟩
theorem open_hash {H : Type} {enc : TypeId × Value → H} {w : World} {sp : Nat → Bool} {hd : Bool} {b : Nat} {v : Value} {d : DataW H} {p : List MemPlace}
    (hval : OkW Tryz.prog w b 70 v) (h : DataW.Trod enc Tryz.prog w 0 sp hd 70 v d p) : ∃ (va vb su : Value) (a c : List Lab.Lab) (ss : List (List UInt8)) (m : Int), v = .agg ⟨[va, vb, su, .int .i64 m]⟩ ∧
      Lab.Labs w va a ∧ (∀ x ∈ a, Lab.LabSz x) ∧ Lab.Labs w vb c ∧ (∀ x ∈ c, Lab.LabSz x) ∧ Sli w su 1 (ss.map strC) ∧ (∀ s ∈ ss, Lab.Sz s) ∧ I64 m := by
  obtain ⟨cs, n, rfl, hl, hf⟩ := open_aggN (tb.ok _ _ rfl) (by kernel_rfl) (m := 4) (by kernel_rfl) hval h
  match cs, hl with
  | [c0, c1, c2, c3], _ =>
    obtain ⟨y3, k3⟩ := hf 3 _ c3 rfl rfl
    obtain ⟨m, hm, hw⟩ := open_int1 (tb.ok _ _ rfl) k3
    simp only [List.cons.injEq, and_true] at hm
    subst hm
    obtain ⟨y0, k0⟩ := hf 0 _ c0 rfl rfl
    obtain ⟨y1, k1⟩ := hf 1 _ c1 rfl rfl
    obtain ⟨y2, k2⟩ := hf 2 _ c2 rfl rfl
    have f0 : OkW Tryz.prog w b 23 c0 := field_ok (t := 70) (u := 23) (e := 78) (i := 0) (tb.ok 70 _ rfl) hval (ts := [23, 23, 61, 3]) (by kernel_rfl) rfl rfl (tb.ok 23 _ rfl)
    have f1 : OkW Tryz.prog w b 23 c1 := field_ok (t := 70) (u := 23) (e := 78) (i := 1) (tb.ok 70 _ rfl) hval (ts := [23, 23, 61, 3]) (by kernel_rfl) rfl rfl (tb.ok 23 _ rfl)
    have f2 : OkW Tryz.prog w b 61 c2 := field_ok (t := 70) (u := 61) (e := 9) (i := 2) (tb.ok 70 _ rfl) hval (ts := [23, 23, 61, 3]) (by kernel_rfl) rfl rfl (tb.ok 61 _ rfl)
    obtain ⟨a, h1, h2⟩ := open_lab1 f0 k0
    obtain ⟨c, h3, h4⟩ := open_lab1 f1 k1
    obtain ⟨ls, h5, h6⟩ := open_rows1 (t := 61) (e := 9) (k := 1) strC (fun s => s.length ≤ 9223372036854775807) (tb.ok _ _ rfl) (by kernel_rfl) (fun n cs x hx => by
      obtain ⟨a, ha, hla⟩ := open_str (tb.ok _ _ rfl) hx
      exact ⟨a, ha, hla⟩) f2 k2
    exact ⟨c0, c1, c2, a, c, ls, m, rfl, h1, h2, h3, h4, h5, h6, wf_i64 hw⟩
end Go.Proofs.YtmkckngecjpklaaGreatDoor
end
section
open Go Go.Vg Go.RowKit Go.Proofs Go.Proofs.YtmkckngecjpklaaGreatDoor
namespace Go.Proofs.YtmkckngecjpklaaGreatDoor
set_option linter.unusedSimpArgs false
open Go.Lib Go.Shelf Go.ChangeShapes Go.WideShapes Go.ChangeAt

set_option maxRecDepth 100000 in
theorem contract_scrapeHashes (H : Type) (enc : TypeId × Value → H) (W : World) (base : Nat) (args : Array Value) (ds gs : List (DataW H)) (before : List MemPlace)
    (hval : ∀ (j : Nat) t v, Tryz.f6.params[j]? = some t → args[j]? = some v → Value.okWide Tryz.prog W .any base t v)
    (hW : DataW.Whole enc Tryz.prog Tryz.f6.params.toList Rows.scrapeHashesSpec.vars false W args.toList ds gs before) (hL : laidMetH Tryz.prog Rows.scrapeHashesRow.laid W) :
    Calls Tryz.prog 6 args W fun e W' => ∃ v, e = .returned v ∧ Rows.scrapeHashesSpec.post enc Tryz.prog Tryz.f6 false true false false W args v W' := by
  have hW' := hW
  obtain ⟨p, q, hA0, hV, rfl, hfz, hnd⟩ := hW
  have hA : DataW.TrodAll enc Tryz.prog W 0 (fun _ => true) true Tryz.f6.params.toList args.toList ds p := hA0
  rw [Tryz.params6] at hA hval
  obtain ⟨v0, vs0, d0, ds0, p0, q0, hargs, rfl, rfl, h0, r0⟩ := trodAll_cons hA
  obtain ⟨rfl, rfl, rfl⟩ := trodAll_nil r0
  obtain rfl : args = #[v0] := by cases args; simp_all
  have k0 := OkW.mk (hval 0 _ v0 rfl rfl)
  obtain ⟨va0, vb0, su0, xa0, xb0, ss0, n0, rfl, ha0, hza0, hb0, hzb0, hu0, hs0, hn0⟩ := open_hash k0 h0
  refine Calls.mono (hashes_law va0 vb0 su0 xa0 xb0 ss0 n0 W ha0 hza0 hb0 hzb0 hu0 hs0 hn0 (tabs hL)) ?_
  rintro e W' ⟨v, rfl, rfl, hx⟩
  exact ⟨_, rfl, law_post laidOut (by kernel_rfl) (tb := 4) rfl (tb.ok _ _ rfl) rfl hW' rfl hx⟩
theorem reads_scrapeHashes (os : Os) {H : Type} (enc : TypeId × Value → H) : ∃ places, DataW.whole enc Tryz.prog ((laidWorld os).forCall (fun _ _ => 0) ⟨#[], #[.agg #[.slice none 0 0, .slice none 0 0, .slice none 0 0, .int .i64 0]], []⟩).memory Tryz.f6.params.toList Rows.scrapeHashesSpec.vars false #[.agg #[.slice none 0 0, .slice none 0 0, .slice none 0 0, .int .i64 0]].toList 8 = some ([.agg [.nil, .nil, .nil, .lit (.int .i64 0)]], [], places) :=
  ⟨[], by kernel_rfl⟩
set_option maxRecDepth 100000 in
theorem lifted_scrapeHashes (os : Os) (started : os.Started) (H : Type) (enc : TypeId × Value → H) (F : Stop.Interp) :
    ReturnsInHanded {} Tryz.checked os 6 .any ((OpenSpec.ofChange Rows.scrapeHashesSpec).preRow enc Tryz.prog Tryz.f6 Rows.scrapeHashesRow.domain false Rows.scrapeHashesRow.laid) (((OpenSpec.ofChange Rows.scrapeHashesSpec).at F).post enc Tryz.prog Tryz.f6 false true false false) := by
  obtain ⟨places, hx⟩ := reads_scrapeHashes os enc
  refine returnsInHanded_of_row (C := Tryz.checked) (s := OpenSpec.ofChange Rows.scrapeHashesSpec) own started (by kernel_rfl) Tryz.func6
    (witness_row_at (enc := enc) (C := Tryz.checked) false (laidWorld os) #[.agg #[.slice none 0 0, .slice none 0 0, .slice none 0 0, .int .i64 0]] rfl (by kernel_rfl) (by kernel_rfl) (by kernel_rfl)
      (OpenSpec.preRow_of_cond 8 hx (by kernel_rfl) (fun k hk => by cases hk) (by kernel_rfl) (laid_met os _))) ?_
  intro W base args ds gs before hval hW _ _ _ hL _ _
  exact contract_scrapeHashes H enc W base args ds gs before hval hW hL
theorem kinPlace_scrapeHashes : (Rows.scrapeHashesRow.inPlace == Tryz.pinned.checked.prog.inPlace 6) = true := by kernel_rfl
theorem kunfollowed_scrapeHashes : (Rows.scrapeHashesRow.unfollowed == Tryz.pinned.checked.prog.unfollowed 6) = true := by kernel_rfl
theorem krecurses_scrapeHashes : (Rows.scrapeHashesRow.recurses == Tryz.pinned.checked.prog.recurses 6) = true := by kernel_rfl
theorem knamed_scrapeHashes : (Rows.scrapeHashesRow.named == Tryz.pinned.checked.prog.varsNamed 6) = true := by kernel_rfl
theorem kenter_scrapeHashes : Tryz.pinned.checked.prog.mayEnter = true := by kernel_rfl
theorem klifted_scrapeHashes : (Rows.scrapeHashesRow.lifted == Tryz.pinned.checked.prog.liftsFinal) = true := by kernel_rfl
theorem kmake_scrapeHashes : (Tryz.pinned.checked.prog.make == some Rows.scrapeHashesRow.make) = true := by kernel_rfl
theorem closed_scrapeHashes : joinedFacts Tryz.pinned.checked.prog 6 Tryz.f6 (OpenSpec.ofChange Rows.scrapeHashesSpec).bare Rows.scrapeHashesRow = true := by
  unfold joinedFacts
  rw [kinPlace_scrapeHashes, kunfollowed_scrapeHashes, krecurses_scrapeHashes, knamed_scrapeHashes, kenter_scrapeHashes, klifted_scrapeHashes, kmake_scrapeHashes]
  kernel_rfl
theorem said_scrapeHashes : Rows.ScrapeHashesSaid :=
  OpenClaim.holds_of_cond 6 Tryz.f6 rfl rfl rfl rfl rfl rfl rfl ⟨rfl, rfl, rfl, rfl, rfl⟩ rfl rfl rfl rfl rfl (by kernel_rfl) Tryz.func6 closed_scrapeHashes
    (of_decide_eq_true (by kernel_rfl)) (by unfold Func.isWrapper; first | (rw [if_pos (by decide +kernel)]; kernel_rfl) | (rw [if_neg (by decide +kernel)]; exact ⟨rfl, rfl⟩))
    (fun os started H enc _ F => by rw [OpenClaim.pre_eq_preRow]; exact lifted_scrapeHashes os started H enc F)
theorem plain_scrapeHashes (f : FuncId) (fn : Func) (hf : Tryz.pinned.checked.prog.funcNamed "vigil/vigillaw12.ScrapeHashes" = some f) (hfn : Tryz.pinned.checked.prog.funcs[f]? = some fn) :
    true = Tryz.pinned.checked.prog.looks [] ∧ ∀ (j : Nat) t, fn.params[j]? = some t → Tryz.pinned.checked.prog.wantsStandIn t = false := by
  obtain rfl : f = 6 := Option.some.inj ((show Tryz.prog.funcNamed "vigil/vigillaw12.ScrapeHashes" = some 6 by kernel_rfl).symm.trans hf) |>.symm
  obtain rfl : fn = Tryz.f6 := (Option.some.inj (Tryz.func6.symm.trans hfn)).symm
  refine ⟨by kernel_rfl, fun j t ht => ?_⟩
  rw [Tryz.params6] at ht
  have hm : t ∈ #[70] := Array.mem_of_getElem? ht
  simp only [List.mem_toArray, List.mem_cons, List.not_mem_nil, or_false] at hm
  rcases hm with rfl
  · exact (show Tryz.prog.wantsStandIn 70 = false by kernel_rfl)
/-- Sets are spread by the hash of their labels over numbers below the modulus, alike ones alike. -/
theorem ScrapeHashes_holds : Rows.ScrapeHashesCardSaid :=
  Claim7.holds_tied_plain_at .later [] _ _ _ _ said_scrapeHashes (fun _ h => by cases h) (by kernel_rfl) (fun _ h => by cases h) scrapeHashes_row_tie rfl ⟨rfl, rfl⟩ (by kernel_rfl) rfl plain_scrapeHashes (by kernel_rfl)
end Go.Proofs.YtmkckngecjpklaaGreatDoor
end
