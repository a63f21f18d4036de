/- UTF-8 as the reference reads it, walked. -/
import Derived.Test.YtfffblopkaandaaDoorLTb
open Go Go.Vg Go.RowKit Go.Proofs Go.Proofs.YtfffblopkaandaaDoor
namespace Go.Proofs.YtfffblopkaandaaDoor
set_option linter.unusedSimpArgs false

/-- a leading byte: how many bytes, its bits, the least number that so many bytes may say -/
def lead (b : Int) : Option (Nat × Int × Int) :=
  if 240 ≤ b ∧ b < 248 then some (4, b - 240, 65536) else if 224 ≤ b ∧ b < 240 then some (3, b - 224, 2048) else if 192 ≤ b ∧ b < 224 then some (2, b - 192, 128)
  else if 128 ≤ b then none else some (1, b, 0)
def byteI (s : List UInt8) (i : Nat) : Int := ((s.getD i 0).toNat : Int)
theorem byteI_bd (s : List UInt8) (i : Nat) : 0 ≤ byteI s i ∧ byteI s i < 256 := by
  have := (s.getD i 0).toNat_lt
  unfold byteI; omega
/-- the number behind j further bytes -/
def contTo (s : List UInt8) (i : Nat) (c : Int) : Nat → Option Int
  | 0 => some c
  | j + 1 => match contTo s i c j with
    | none => none
    | some c => if byteI s (i + (j + 1)) < 128 ∨ 192 ≤ byteI s (i + (j + 1)) then none else some (64 * c + byteI s (i + (j + 1)) - 128)
def badRune (c least : Int) : Bool := decide (c < least) || decide (1114111 < c) || decide (55296 ≤ c) && decide (c ≤ 57343)
def u8n (s : List UInt8) (i : Nat) (n : Nat) (c least : Int) : Nat :=
  if s.length < i + n then 0 else match contTo s i c (n - 1) with
    | none => 0
    | some c => if badRune c least = true then 0 else n
/-- how many bytes the character has that begins at i -/
def u8len (s : List UInt8) (i : Nat) : Nat :=
  match lead (byteI s i) with
  | none => 0
  | some (n, c, least) => u8n s i n c least

theorem contTo_none {s : List UInt8} {i : Nat} {c : Int} {j : Nat} (h : contTo s i c j = none) : ∀ m, j ≤ m → contTo s i c m = none := by
  intro m
  induction m with
  | zero => intro hm; obtain rfl : j = 0 := by omega
            exact h
  | succ m ih =>
    intro hm
    by_cases e : j = m + 1
    · subst e; exact h
    · simp only [contTo, ih (by omega)]
theorem contTo_bd {s : List UInt8} {i : Nat} {c : Int} (hc : 0 ≤ c ∧ c < 256) : ∀ (j : Nat) (r : Int), contTo s i c j = some r → 0 ≤ r ∧ r + 1 ≤ 256 * 64 ^ j := by
  intro j
  induction j with
  | zero => intro r h; simp only [contTo, Option.some.injEq] at h; subst h; omega
  | succ j ih =>
    intro r h
    simp only [contTo] at h
    cases hj : contTo s i c j with
    | none => rw [hj] at h; cases h
    | some q =>
      rw [hj] at h
      simp only at h
      have hq := ih q hj
      have hp : (64 : Int) ^ (j + 1) = 64 * 64 ^ j := by rw [Int.pow_succ, Int.mul_comm]
      rw [hp]
      by_cases hx : byteI s (i + (j + 1)) < 128 ∨ 192 ≤ byteI s (i + (j + 1))
      · rw [if_pos hx] at h; cases h
      · rw [if_neg hx] at h; cases h; omega
theorem contTo_bd3 {s : List UInt8} {i : Nat} {c r : Int} {j : Nat} (hc : 0 ≤ c ∧ c < 256) (h : contTo s i c j = some r) (hj : j ≤ 3) : 0 ≤ r ∧ r < 67108864 := by
  have := contTo_bd hc j r h
  have h3 : (64 : Int) ^ j ≤ 262144 := by
    rcases (show j = 0 ∨ j = 1 ∨ j = 2 ∨ j = 3 by omega) with rfl | rfl | rfl | rfl <;> decide
  omega

set_option maxHeartbeats 800000 in
theorem utf8_ok (s : List UInt8) (i : Nat) (w : World) (hs : s.length ≤ 140737488355328) (hi : i < s.length) :
    Ret Tryd.prog 111 ⟨[S s, .int .i64 i]⟩ w fun v w' => v = .int .i64 (u8len s i) ∧ w' = w := by
  refine ret_of_G Tryd.func111 rfl Tryd.ntmps111 rfl ?_
  simp only [argEnv]
  try (first | refine gl tb ?_ | refine gg tb ?_ | refine ll tb ?_ | refine lg tb ?_); repeat ((first | refine G.condT rfl ?_ | refine G.condF rfl ?_); try (first | refine gl tb ?_ | refine gg tb ?_ | refine ll tb ?_ | refine lg tb ?_))
  refine GL.cons (Step.indexS tb i rfl (Op1.of rfl (by first | exact fun _ => rfl | exact fun h => h | exact fun h => bL h | exact fun h => bL (bL h) | exact fun h => bL (bL (bL h)))) (Op1.of rfl (by first | exact fun _ => rfl | exact fun h => h | exact fun h => bL h | exact fun h => bL (bL h) | exact fun h => bL (bL (bL h)))) rfl (fun _ => ⟨by omega, by omega⟩) rfl ?_)
  obtain ⟨b, hb⟩ : ∃ b : Int, b = byteI s i := ⟨_, rfl⟩
  have hbd := byteI_bd s i
  have hU : U (s.getD i 0) = .int .u8 b := by rw [hb]; rfl
  rw [hU]
  rw [← hb] at hbd
  refine GL.cons (Step.convI tb rfl (Op1.of rfl (by first | exact fun _ => rfl | exact fun h => h | exact fun h => bL h | exact fun h => bL (bL h) | exact fun h => bL (bL (bL h)))) rfl rfl (wrap_i64 (by omega) (by omega)) rfl ?_)
  try (first | refine gl tb ?_ | refine gg tb ?_ | refine ll tb ?_ | refine lg tb ?_); repeat ((first | refine G.condT rfl ?_ | refine G.condF rfl ?_); try (first | refine gl tb ?_ | refine gg tb ?_ | refine ll tb ?_ | refine lg tb ?_))
  refine G.join (fun x : Nat × Int × Int => [(0, none, S s), (0 + 1, none, .int .i64 i), (6, none, .int .i64 x.1), (7, none, .int .i64 x.2.1), (8, none, .int .i64 x.2.2)])
    (fun x w' => w' = w ∧ lead b = some x ∧ 1 ≤ x.1 ∧ x.1 ≤ 4 ∧ 0 ≤ x.2.1 ∧ x.2.1 < 256) ?_ ?_
  · rintro ⟨n, c, least⟩ w ⟨rfl, hl, hn1, hn4, hc0, hc1⟩
    simp only at hl hn1 hn4 hc0 hc1 ⊢
    have hu : u8len s i = u8n s i n c least := by unfold u8len; rw [← hb, hl]
    try (first | refine gl tb ?_ | refine gg tb ?_ | refine ll tb ?_ | refine lg tb ?_); repeat ((first | refine G.condT rfl ?_ | refine G.condF rfl ?_); try (first | refine gl tb ?_ | refine gg tb ?_ | refine ll tb ?_ | refine lg tb ?_))
    refine GL.cons (Step.arith rfl (Op1.of rfl (by first | exact fun _ => rfl | exact fun h => h | exact fun h => bL h | exact fun h => bL (bL h) | exact fun h => bL (bL (bL h)))) (Op1.of rfl (by first | exact fun _ => rfl | exact fun h => h | exact fun h => bL h | exact fun h => bL (bL h) | exact fun h => bL (bL (bL h)))) (wrap_i64 (by omega) (by omega)) rfl ?_)
    try (first | refine gl tb ?_ | refine gg tb ?_ | refine ll tb ?_ | refine lg tb ?_); repeat ((first | refine G.condT rfl ?_ | refine G.condF rfl ?_); try (first | refine gl tb ?_ | refine gg tb ?_ | refine ll tb ?_ | refine lg tb ?_))
    first | refine G.condD rfl (fun hc => ?_) (fun hc => ?_) | refine G.condN rfl (fun hc => ?_) (fun hc => ?_) | refine G.cond rfl (fun hc => ?_) (fun hc => ?_)
    · try (first | refine gl tb ?_ | refine gg tb ?_ | refine ll tb ?_ | refine lg tb ?_); repeat ((first | refine G.condT rfl ?_ | refine G.condF rfl ?_); try (first | refine gl tb ?_ | refine gg tb ?_ | refine ll tb ?_ | refine lg tb ?_))
      refine G.ret1 rfl rfl rfl rfl ?_
      refine ⟨?_, rfl⟩
      rw [hu, u8n, if_pos (by omega)]; rfl
    · try (first | refine gl tb ?_ | refine gg tb ?_ | refine ll tb ?_ | refine lg tb ?_); repeat ((first | refine G.condT rfl ?_ | refine G.condF rfl ?_); try (first | refine gl tb ?_ | refine gg tb ?_ | refine ll tb ?_ | refine lg tb ?_))
      refine (G.loop (fun x : Nat × Int => [(0, none, S s), (0 + 1, none, .int .i64 i), (6, none, .int .i64 n), (7, none, .int .i64 x.2), (8, none, .int .i64 least), (9, none, .int .i64 (x.1 + 1 : Nat))])
        (fun x w' => w' = w ∧ x.1 + 1 ≤ n ∧ contTo s i c x.1 = some x.2) (fun x => n - x.1) (0, c) (by repeat (first | exact Sub.nil _ | refine Sub.cons rfl ?_)) ⟨rfl, by simpa using hn1, rfl⟩ ?_)
      rintro ⟨j, q⟩ w ⟨rfl, hj, hq⟩
      simp only at hj hq ⊢
      have hqb := contTo_bd3 ⟨hc0, hc1⟩ hq (by omega)
      try (first | refine gl tb ?_ | refine gg tb ?_ | refine ll tb ?_ | refine lg tb ?_); repeat ((first | refine G.condT rfl ?_ | refine G.condF rfl ?_); try (first | refine gl tb ?_ | refine gg tb ?_ | refine ll tb ?_ | refine lg tb ?_))
      first | refine G.condD rfl (fun hc => ?_) (fun hc => ?_) | refine G.condN rfl (fun hc => ?_) (fun hc => ?_) | refine G.cond rfl (fun hc => ?_) (fun hc => ?_)
      · try (first | refine gl tb ?_ | refine gg tb ?_ | refine ll tb ?_ | refine lg tb ?_); repeat ((first | refine G.condT rfl ?_ | refine G.condF rfl ?_); try (first | refine gl tb ?_ | refine gg tb ?_ | refine ll tb ?_ | refine lg tb ?_))
        refine GL.cons (Step.arith rfl (Op1.of rfl (by first | exact fun _ => rfl | exact fun h => h | exact fun h => bL h | exact fun h => bL (bL h) | exact fun h => bL (bL (bL h)))) (Op1.of rfl (by first | exact fun _ => rfl | exact fun h => h | exact fun h => bL h | exact fun h => bL (bL h) | exact fun h => bL (bL (bL h)))) (wrap_i64 (by omega) (by omega)) rfl ?_)
        rw [show (i : Int) + ((j + 1 : Nat) : Int) = ((i + (j + 1) : Nat) : Int) by omega]
        refine GL.cons (Step.indexS tb (i + (j + 1)) rfl (Op1.of rfl (by first | exact fun _ => rfl | exact fun h => h | exact fun h => bL h | exact fun h => bL (bL h) | exact fun h => bL (bL (bL h)))) (Op1.of rfl (by first | exact fun _ => rfl | exact fun h => h | exact fun h => bL h | exact fun h => bL (bL h) | exact fun h => bL (bL (bL h)))) rfl (fun _ => ⟨by omega, by omega⟩) rfl ?_)
        obtain ⟨x, hx⟩ : ∃ x : Int, x = byteI s (i + (j + 1)) := ⟨_, rfl⟩
        have hxd := byteI_bd s (i + (j + 1))
        have hUx : U (s.getD (i + (j + 1)) 0) = .int .u8 x := by rw [hx]; rfl
        rw [hUx]
        rw [← hx] at hxd
        refine GL.cons (Step.convI tb rfl (Op1.of rfl (by first | exact fun _ => rfl | exact fun h => h | exact fun h => bL h | exact fun h => bL (bL h) | exact fun h => bL (bL (bL h)))) rfl rfl (wrap_i64 (by omega) (by omega)) rfl ?_)
        try (first | refine gl tb ?_ | refine gg tb ?_ | refine ll tb ?_ | refine lg tb ?_); repeat ((first | refine G.condT rfl ?_ | refine G.condF rfl ?_); try (first | refine gl tb ?_ | refine gg tb ?_ | refine ll tb ?_ | refine lg tb ?_))
        have hcn : contTo s i c (j + 1) = if x < 128 ∨ 192 ≤ x then none else some (64 * q + x - 128) := by simp only [contTo, hq, hx]
        first | refine G.condD rfl (fun hc => ?_) (fun hc => ?_) | refine G.condN rfl (fun hc => ?_) (fun hc => ?_) | refine G.cond rfl (fun hc => ?_) (fun hc => ?_)
        · try (first | refine gl tb ?_ | refine gg tb ?_ | refine ll tb ?_ | refine lg tb ?_); repeat ((first | refine G.condT rfl ?_ | refine G.condF rfl ?_); try (first | refine gl tb ?_ | refine gg tb ?_ | refine ll tb ?_ | refine lg tb ?_))
          refine G.ret1 rfl rfl rfl rfl ?_
          refine ⟨?_, rfl⟩
          simp only [Bool.or_eq_true, decide_eq_true_eq] at hc
          rw [if_pos hc] at hcn
          rw [hu, u8n, if_neg (by omega), contTo_none hcn (n - 1) (by omega)]; rfl
        · simp only [Bool.or_eq_false_iff, decide_eq_false_iff_not] at hc
          rw [if_neg (by omega)] at hcn
          try (first | refine gl tb ?_ | refine gg tb ?_ | refine ll tb ?_ | refine lg tb ?_); repeat ((first | refine G.condT rfl ?_ | refine G.condF rfl ?_); try (first | refine gl tb ?_ | refine gg tb ?_ | refine ll tb ?_ | refine lg tb ?_))
          refine GL.cons (Step.arith rfl (Op1.of rfl (by first | exact fun _ => rfl | exact fun h => h | exact fun h => bL h | exact fun h => bL (bL h) | exact fun h => bL (bL (bL h)))) (Op1.of rfl (by first | exact fun _ => rfl | exact fun h => h | exact fun h => bL h | exact fun h => bL (bL h) | exact fun h => bL (bL (bL h)))) (wrap_i64 (by omega) (by omega)) rfl ?_)
          try (first | refine gl tb ?_ | refine gg tb ?_ | refine ll tb ?_ | refine lg tb ?_); repeat ((first | refine G.condT rfl ?_ | refine G.condF rfl ?_); try (first | refine gl tb ?_ | refine gg tb ?_ | refine ll tb ?_ | refine lg tb ?_))
          refine GL.cons (Step.arith rfl (Op1.of rfl (by first | exact fun _ => rfl | exact fun h => h | exact fun h => bL h | exact fun h => bL (bL h) | exact fun h => bL (bL (bL h)))) (Op1.of rfl (by first | exact fun _ => rfl | exact fun h => h | exact fun h => bL h | exact fun h => bL (bL h) | exact fun h => bL (bL (bL h)))) (wrap_i64 (by omega) (by omega)) rfl ?_)
          try (first | refine gl tb ?_ | refine gg tb ?_ | refine ll tb ?_ | refine lg tb ?_); repeat ((first | refine G.condT rfl ?_ | refine G.condF rfl ?_); try (first | refine gl tb ?_ | refine gg tb ?_ | refine ll tb ?_ | refine lg tb ?_))
          refine GL.cons (Step.arith rfl (Op1.of rfl (by first | exact fun _ => rfl | exact fun h => h | exact fun h => bL h | exact fun h => bL (bL h) | exact fun h => bL (bL (bL h)))) (Op1.of rfl (by first | exact fun _ => rfl | exact fun h => h | exact fun h => bL h | exact fun h => bL (bL h) | exact fun h => bL (bL (bL h)))) (wrap_i64 (by omega) (by omega)) rfl ?_)
          try (first | refine gl tb ?_ | refine gg tb ?_ | refine ll tb ?_ | refine lg tb ?_); repeat ((first | refine G.condT rfl ?_ | refine G.condF rfl ?_); try (first | refine gl tb ?_ | refine gg tb ?_ | refine ll tb ?_ | refine lg tb ?_))
          refine GL.cons (Step.arith rfl (Op1.of rfl (by first | exact fun _ => rfl | exact fun h => h | exact fun h => bL h | exact fun h => bL (bL h) | exact fun h => bL (bL (bL h)))) (Op1.of rfl (by first | exact fun _ => rfl | exact fun h => h | exact fun h => bL h | exact fun h => bL (bL h) | exact fun h => bL (bL (bL h)))) (wrap_i64 (by omega) (by omega)) rfl ?_)
          try (first | refine gl tb ?_ | refine gg tb ?_ | refine ll tb ?_ | refine lg tb ?_); repeat ((first | refine G.condT rfl ?_ | refine G.condF rfl ?_); try (first | refine gl tb ?_ | refine gg tb ?_ | refine ll tb ?_ | refine lg tb ?_))
          exact G.lp (x := (j, q)) (j + 1, 64 * q + x - 128) (by repeat (first | exact Sub.nil _ | refine Sub.cons rfl ?_)) ⟨rfl, by simp only; omega, hcn⟩ (by simp only; omega)
      · have hjn : j = n - 1 := by omega
        try (first | refine gl tb ?_ | refine gg tb ?_ | refine ll tb ?_ | refine lg tb ?_); repeat ((first | refine G.condT rfl ?_ | refine G.condF rfl ?_); try (first | refine gl tb ?_ | refine gg tb ?_ | refine ll tb ?_ | refine lg tb ?_))
        first | refine G.condD rfl (fun hc => ?_) (fun hc => ?_) | refine G.condN rfl (fun hc => ?_) (fun hc => ?_) | refine G.cond rfl (fun hc => ?_) (fun hc => ?_)
        · try (first | refine gl tb ?_ | refine gg tb ?_ | refine ll tb ?_ | refine lg tb ?_); repeat ((first | refine G.condT rfl ?_ | refine G.condF rfl ?_); try (first | refine gl tb ?_ | refine gg tb ?_ | refine ll tb ?_ | refine lg tb ?_))
          refine G.ret1 rfl rfl rfl rfl ?_
          refine ⟨?_, rfl⟩
          rw [hu, u8n, if_neg (by omega), ← hjn, hq]
          simp only [badRune, hc, if_true]; rfl
        · try (first | refine gl tb ?_ | refine gg tb ?_ | refine ll tb ?_ | refine lg tb ?_); repeat ((first | refine G.condT rfl ?_ | refine G.condF rfl ?_); try (first | refine gl tb ?_ | refine gg tb ?_ | refine ll tb ?_ | refine lg tb ?_))
          refine G.ret1 rfl rfl rfl rfl ?_
          refine ⟨?_, rfl⟩
          rw [hu, u8n, if_neg (by omega), ← hjn, hq]
          simp only [badRune, hc, Bool.false_eq_true, if_false]
  · first | refine G.condD rfl (fun hc => ?_) (fun hc => ?_) | refine G.condN rfl (fun hc => ?_) (fun hc => ?_) | refine G.cond rfl (fun hc => ?_) (fun hc => ?_)
    · simp only [Bool.and_eq_true, decide_eq_true_eq] at hc
      try (first | refine gl tb ?_ | refine gg tb ?_ | refine ll tb ?_ | refine lg tb ?_); repeat ((first | refine G.condT rfl ?_ | refine G.condF rfl ?_); try (first | refine gl tb ?_ | refine gg tb ?_ | refine ll tb ?_ | refine lg tb ?_))
      refine GL.cons (Step.arith rfl (Op1.of rfl (by first | exact fun _ => rfl | exact fun h => h | exact fun h => bL h | exact fun h => bL (bL h) | exact fun h => bL (bL (bL h)))) (Op1.of rfl (by first | exact fun _ => rfl | exact fun h => h | exact fun h => bL h | exact fun h => bL (bL h) | exact fun h => bL (bL (bL h)))) (wrap_i64 (by omega) (by omega)) rfl ?_)
      try (first | refine gl tb ?_ | refine gg tb ?_ | refine ll tb ?_ | refine lg tb ?_); repeat ((first | refine G.condT rfl ?_ | refine G.condF rfl ?_); try (first | refine gl tb ?_ | refine gg tb ?_ | refine ll tb ?_ | refine lg tb ?_))
      exact G.met (4, b - 240, 65536) (by repeat (first | exact Sub.nil _ | refine Sub.cons rfl ?_)) ⟨rfl, by rw [lead, if_pos hc], by omega, by omega, by simp; omega, by simp; omega⟩
    · simp only [Bool.and_eq_false_iff, decide_eq_false_iff_not] at hc
      try (first | refine gl tb ?_ | refine gg tb ?_ | refine ll tb ?_ | refine lg tb ?_); repeat ((first | refine G.condT rfl ?_ | refine G.condF rfl ?_); try (first | refine gl tb ?_ | refine gg tb ?_ | refine ll tb ?_ | refine lg tb ?_))
      have hc1 := hc
      first | refine G.condD rfl (fun hc => ?_) (fun hc => ?_) | refine G.condN rfl (fun hc => ?_) (fun hc => ?_) | refine G.cond rfl (fun hc => ?_) (fun hc => ?_)
      · simp only [Bool.and_eq_true, decide_eq_true_eq] at hc
        try (first | refine gl tb ?_ | refine gg tb ?_ | refine ll tb ?_ | refine lg tb ?_); repeat ((first | refine G.condT rfl ?_ | refine G.condF rfl ?_); try (first | refine gl tb ?_ | refine gg tb ?_ | refine ll tb ?_ | refine lg tb ?_))
        refine GL.cons (Step.arith rfl (Op1.of rfl (by first | exact fun _ => rfl | exact fun h => h | exact fun h => bL h | exact fun h => bL (bL h) | exact fun h => bL (bL (bL h)))) (Op1.of rfl (by first | exact fun _ => rfl | exact fun h => h | exact fun h => bL h | exact fun h => bL (bL h) | exact fun h => bL (bL (bL h)))) (wrap_i64 (by omega) (by omega)) rfl ?_)
        try (first | refine gl tb ?_ | refine gg tb ?_ | refine ll tb ?_ | refine lg tb ?_); repeat ((first | refine G.condT rfl ?_ | refine G.condF rfl ?_); try (first | refine gl tb ?_ | refine gg tb ?_ | refine ll tb ?_ | refine lg tb ?_))
        exact G.met (3, b - 224, 2048) (by repeat (first | exact Sub.nil _ | refine Sub.cons rfl ?_)) ⟨rfl, by rw [lead, if_neg (by omega), if_pos hc], by omega, by omega, by simp; omega, by simp; omega⟩
      · simp only [Bool.and_eq_false_iff, decide_eq_false_iff_not] at hc
        try (first | refine gl tb ?_ | refine gg tb ?_ | refine ll tb ?_ | refine lg tb ?_); repeat ((first | refine G.condT rfl ?_ | refine G.condF rfl ?_); try (first | refine gl tb ?_ | refine gg tb ?_ | refine ll tb ?_ | refine lg tb ?_))
        have hc2 := hc
        first | refine G.condD rfl (fun hc => ?_) (fun hc => ?_) | refine G.condN rfl (fun hc => ?_) (fun hc => ?_) | refine G.cond rfl (fun hc => ?_) (fun hc => ?_)
        · simp only [Bool.and_eq_true, decide_eq_true_eq] at hc
          try (first | refine gl tb ?_ | refine gg tb ?_ | refine ll tb ?_ | refine lg tb ?_); repeat ((first | refine G.condT rfl ?_ | refine G.condF rfl ?_); try (first | refine gl tb ?_ | refine gg tb ?_ | refine ll tb ?_ | refine lg tb ?_))
          refine GL.cons (Step.arith rfl (Op1.of rfl (by first | exact fun _ => rfl | exact fun h => h | exact fun h => bL h | exact fun h => bL (bL h) | exact fun h => bL (bL (bL h)))) (Op1.of rfl (by first | exact fun _ => rfl | exact fun h => h | exact fun h => bL h | exact fun h => bL (bL h) | exact fun h => bL (bL (bL h)))) (wrap_i64 (by omega) (by omega)) rfl ?_)
          try (first | refine gl tb ?_ | refine gg tb ?_ | refine ll tb ?_ | refine lg tb ?_); repeat ((first | refine G.condT rfl ?_ | refine G.condF rfl ?_); try (first | refine gl tb ?_ | refine gg tb ?_ | refine ll tb ?_ | refine lg tb ?_))
          exact G.met (2, b - 192, 128) (by repeat (first | exact Sub.nil _ | refine Sub.cons rfl ?_)) ⟨rfl, by rw [lead, if_neg (by omega), if_neg (by omega), if_pos hc], by omega, by omega, by simp; omega, by simp; omega⟩
        · simp only [Bool.and_eq_false_iff, decide_eq_false_iff_not] at hc
          try (first | refine gl tb ?_ | refine gg tb ?_ | refine ll tb ?_ | refine lg tb ?_); repeat ((first | refine G.condT rfl ?_ | refine G.condF rfl ?_); try (first | refine gl tb ?_ | refine gg tb ?_ | refine ll tb ?_ | refine lg tb ?_))
          have hc3 := hc
          first | refine G.condD rfl (fun hc => ?_) (fun hc => ?_) | refine G.condN rfl (fun hc => ?_) (fun hc => ?_) | refine G.cond rfl (fun hc => ?_) (fun hc => ?_)
          · try (first | refine gl tb ?_ | refine gg tb ?_ | refine ll tb ?_ | refine lg tb ?_); repeat ((first | refine G.condT rfl ?_ | refine G.condF rfl ?_); try (first | refine gl tb ?_ | refine gg tb ?_ | refine ll tb ?_ | refine lg tb ?_))
            refine G.ret1 rfl rfl rfl rfl ?_
            refine ⟨?_, rfl⟩
            have : lead (byteI s i) = none := by rw [← hb, lead, if_neg (by omega), if_neg (by omega), if_neg (by omega), if_pos hc]
            simp only [u8len, this]
            rfl
          · try (first | refine gl tb ?_ | refine gg tb ?_ | refine ll tb ?_ | refine lg tb ?_); repeat ((first | refine G.condT rfl ?_ | refine G.condF rfl ?_); try (first | refine gl tb ?_ | refine gg tb ?_ | refine ll tb ?_ | refine lg tb ?_))
            exact G.met (1, b, 0) (by repeat (first | exact Sub.nil _ | refine Sub.cons rfl ?_)) ⟨rfl, by rw [lead, if_neg (by omega), if_neg (by omega), if_neg (by omega), if_neg hc], by omega, by omega, by simp; omega, by simp; omega⟩
end Go.Proofs.YtfffblopkaandaaDoor
