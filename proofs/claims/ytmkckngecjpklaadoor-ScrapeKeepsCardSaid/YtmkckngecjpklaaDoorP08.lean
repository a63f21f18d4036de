/- Part of the proof of a statement about the given program. -/
import Derived.Test.YtmkckngecjpklaaDoorP07
section
open Go Go.Vg Go.RowKit Go.Proofs Go.Proofs.YtmkckngecjpklaaDoor
namespace Go.Proofs.YtmkckngecjpklaaDoor.Lab
set_option linter.unusedSimpArgs false

/-- a leading byte: how many bytes, its bits, the least number that so many bytes may say -/
def lead (b : Int) : Option (Nat × Int × Int) :=
  if 240 ≤ b ∧ b < 248 then some (4, b - 240, 65536) else if 224 ≤ b ∧ b < 240 then some (3, b - 224, 2048) else if 192 ≤ b ∧ b < 224 then some (2, b - 192, 128)
  else if 128 ≤ b then none else some (1, b, 0)
def byteI (s : List UInt8) (i : Nat) : Int := ((s.getD i 0).toNat : Int)
theorem byteI_bd (s : List UInt8) (i : Nat) : 0 ≤ byteI s i ∧ byteI s i < 256 := by
  have := (s.getD i 0).toNat_lt
  unfold byteI; omega
/-- the number behind j further bytes -/
def contTo (s : List UInt8) (i : Nat) (c : Int) : Nat → Option Int
  | 0 => some c
  | j + 1 => match contTo s i c j with
    | none => none
    | some c => if byteI s (i + (j + 1)) < 128 ∨ 192 ≤ byteI s (i + (j + 1)) then none else some (64 * c + byteI s (i + (j + 1)) - 128)
def badRune (c least : Int) : Bool := decide (c < least) || decide (1114111 < c) || decide (55296 ≤ c) && decide (c ≤ 57343)
def u8n (s : List UInt8) (i : Nat) (n : Nat) (c least : Int) : Nat :=
  if s.length < i + n then 0 else match contTo s i c (n - 1) with
    | none => 0
    | some c => if badRune c least = true then 0 else n
/-- how many bytes the character has that begins at i -/
def u8len (s : List UInt8) (i : Nat) : Nat :=
  match lead (byteI s i) with
  | none => 0
  | some (n, c, least) => u8n s i n c least

theorem contTo_none {s : List UInt8} {i : Nat} {c : Int} {j : Nat} (h : contTo s i c j = none) : ∀ m, j ≤ m → contTo s i c m = none := by
  intro m
  induction m with
  | zero => intro hm; obtain rfl : j = 0 := by omega
            exact h
  | succ m ih =>
    intro hm
    by_cases e : j = m + 1
    · subst e; exact h
    · simp only [contTo, ih (by omega)]
theorem contTo_bd {s : List UInt8} {i : Nat} {c : Int} (hc : 0 ≤ c ∧ c < 256) : ∀ (j : Nat) (r : Int), contTo s i c j = some r → 0 ≤ r ∧ r + 1 ≤ 256 * 64 ^ j := by
  intro j
  induction j with
  | zero => intro r h; simp only [contTo, Option.some.injEq] at h; subst h; omega
  | succ j ih =>
    intro r h
    simp only [contTo] at h
    cases hj : contTo s i c j with
    | none => rw [hj] at h; cases h
    | some q =>
      rw [hj] at h
      simp only at h
      have hq := ih q hj
      have hp : (64 : Int) ^ (j + 1) = 64 * 64 ^ j := by rw [Int.pow_succ, Int.mul_comm]
      rw [hp]
      by_cases hx : byteI s (i + (j + 1)) < 128 ∨ 192 ≤ byteI s (i + (j + 1))
      · rw [if_pos hx] at h; cases h
      · rw [if_neg hx] at h; cases h; omega
theorem contTo_bd3 {s : List UInt8} {i : Nat} {c r : Int} {j : Nat} (hc : 0 ≤ c ∧ c < 256) (h : contTo s i c j = some r) (hj : j ≤ 3) : 0 ≤ r ∧ r < 67108864 := by
  have := contTo_bd hc j r h
  have h3 : (64 : Int) ^ j ≤ 262144 := by
    rcases (show j = 0 ∨ j = 1 ∨ j = 2 ∨ j = 3 by omega) with rfl | rfl | rfl | rfl <;> decide
  omega

set_option maxHeartbeats 800000 in
theorem utf8_ok (s : List UInt8) (i : Nat) (w : World) (hs : s.length ≤ 140737488355328) (hi : i < s.length) :
    Ret Tryd.prog 80 ⟨[S s, .int .i64 i]⟩ w fun v w' => v = .int .i64 (u8len s i) ∧ w' = w := by
  refine ret_of_G Tryd.func80 rfl Tryd.ntmps80 rfl ?_
  simp only [argEnv]
  try (first | refine gl tb ?_ | refine gg tb ?_ | refine ll tb ?_ | refine lg tb ?_); repeat ((first | refine G.condT rfl ?_ | refine G.condF rfl ?_); try (first | refine gl tb ?_ | refine gg tb ?_ | refine ll tb ?_ | refine lg tb ?_))
  refine GL.cons (Step.indexS tb i rfl (Op1.of rfl (by first | exact fun _ => rfl | exact fun h => h | exact fun h => bL h | exact fun h => bL (bL h) | exact fun h => bL (bL (bL h)))) (Op1.of rfl (by first | exact fun _ => rfl | exact fun h => h | exact fun h => bL h | exact fun h => bL (bL h) | exact fun h => bL (bL (bL h)))) rfl (fun _ => ⟨by omega, by omega⟩) rfl ?_)
  obtain ⟨b, hb⟩ : ∃ b : Int, b = byteI s i := ⟨_, rfl⟩
  have hbd := byteI_bd s i
  have hU : U (s.getD i 0) = .int .u8 b := by rw [hb]; rfl
  rw [hU]
  rw [← hb] at hbd
  refine GL.cons (Step.convI tb rfl (Op1.of rfl (by first | exact fun _ => rfl | exact fun h => h | exact fun h => bL h | exact fun h => bL (bL h) | exact fun h => bL (bL (bL h)))) rfl rfl (wrap_i64 (by omega) (by omega)) rfl ?_)
  try (first | refine gl tb ?_ | refine gg tb ?_ | refine ll tb ?_ | refine lg tb ?_); repeat ((first | refine G.condT rfl ?_ | refine G.condF rfl ?_); try (first | refine gl tb ?_ | refine gg tb ?_ | refine ll tb ?_ | refine lg tb ?_))
  refine G.join (fun x : Nat × Int × Int => [(0, none, S s), (0 + 1, none, .int .i64 i), (6, none, .int .i64 x.1), (7, none, .int .i64 x.2.1), (8, none, .int .i64 x.2.2)])
    (fun x w' => w' = w ∧ lead b = some x ∧ 1 ≤ x.1 ∧ x.1 ≤ 4 ∧ 0 ≤ x.2.1 ∧ x.2.1 < 256) ?_ ?_
  · rintro ⟨n, c, least⟩ w ⟨rfl, hl, hn1, hn4, hc0, hc1⟩
    simp only at hl hn1 hn4 hc0 hc1 ⊢
    have hu : u8len s i = u8n s i n c least := by unfold u8len; rw [← hb, hl]
    try (first | refine gl tb ?_ | refine gg tb ?_ | refine ll tb ?_ | refine lg tb ?_); repeat ((first | refine G.condT rfl ?_ | refine G.condF rfl ?_); try (first | refine gl tb ?_ | refine gg tb ?_ | refine ll tb ?_ | refine lg tb ?_))
    refine GL.cons (Step.arith rfl (Op1.of rfl (by first | exact fun _ => rfl | exact fun h => h | exact fun h => bL h | exact fun h => bL (bL h) | exact fun h => bL (bL (bL h)))) (Op1.of rfl (by first | exact fun _ => rfl | exact fun h => h | exact fun h => bL h | exact fun h => bL (bL h) | exact fun h => bL (bL (bL h)))) (wrap_i64 (by omega) (by omega)) rfl ?_)
    try (first | refine gl tb ?_ | refine gg tb ?_ | refine ll tb ?_ | refine lg tb ?_); repeat ((first | refine G.condT rfl ?_ | refine G.condF rfl ?_); try (first | refine gl tb ?_ | refine gg tb ?_ | refine ll tb ?_ | refine lg tb ?_))
    first | refine G.condD rfl (fun hc => ?_) (fun hc => ?_) | refine G.condN rfl (fun hc => ?_) (fun hc => ?_) | refine G.cond rfl (fun hc => ?_) (fun hc => ?_)
    · try (first | refine gl tb ?_ | refine gg tb ?_ | refine ll tb ?_ | refine lg tb ?_); repeat ((first | refine G.condT rfl ?_ | refine G.condF rfl ?_); try (first | refine gl tb ?_ | refine gg tb ?_ | refine ll tb ?_ | refine lg tb ?_))
      refine G.ret1 rfl rfl rfl rfl ?_
      refine ⟨?_, rfl⟩
      rw [hu, u8n, if_pos (by omega)]; rfl
    · try (first | refine gl tb ?_ | refine gg tb ?_ | refine ll tb ?_ | refine lg tb ?_); repeat ((first | refine G.condT rfl ?_ | refine G.condF rfl ?_); try (first | refine gl tb ?_ | refine gg tb ?_ | refine ll tb ?_ | refine lg tb ?_))
      refine (G.loop (fun x : Nat × Int => [(0, none, S s), (0 + 1, none, .int .i64 i), (6, none, .int .i64 n), (7, none, .int .i64 x.2), (8, none, .int .i64 least), (9, none, .int .i64 (x.1 + 1 : Nat))])
        (fun x w' => w' = w ∧ x.1 + 1 ≤ n ∧ contTo s i c x.1 = some x.2) (fun x => n - x.1) (0, c) (by repeat (first | exact Sub.nil _ | refine Sub.cons rfl ?_)) ⟨rfl, by simpa using hn1, rfl⟩ ?_)
      rintro ⟨j, q⟩ w ⟨rfl, hj, hq⟩
      simp only at hj hq ⊢
      have hqb := contTo_bd3 ⟨hc0, hc1⟩ hq (by omega)
      try (first | refine gl tb ?_ | refine gg tb ?_ | refine ll tb ?_ | refine lg tb ?_); repeat ((first | refine G.condT rfl ?_ | refine G.condF rfl ?_); try (first | refine gl tb ?_ | refine gg tb ?_ | refine ll tb ?_ | refine lg tb ?_))
      first | refine G.condD rfl (fun hc => ?_) (fun hc => ?_) | refine G.condN rfl (fun hc => ?_) (fun hc => ?_) | refine G.cond rfl (fun hc => ?_) (fun hc => ?_)
      · try (first | refine gl tb ?_ | refine gg tb ?_ | refine ll tb ?_ | refine lg tb ?_); repeat ((first | refine G.condT rfl ?_ | refine G.condF rfl ?_); try (first | refine gl tb ?_ | refine gg tb ?_ | refine ll tb ?_ | refine lg tb ?_))
        refine GL.cons (Step.arith rfl (Op1.of rfl (by first | exact fun _ => rfl | exact fun h => h | exact fun h => bL h | exact fun h => bL (bL h) | exact fun h => bL (bL (bL h)))) (Op1.of rfl (by first | exact fun _ => rfl | exact fun h => h | exact fun h => bL h | exact fun h => bL (bL h) | exact fun h => bL (bL (bL h)))) (wrap_i64 (by omega) (by omega)) rfl ?_)
        rw [show (i : Int) + ((j + 1 : Nat) : Int) = ((i + (j + 1) : Nat) : Int) by omega]
        refine GL.cons (Step.indexS tb (i + (j + 1)) rfl (Op1.of rfl (by first | exact fun _ => rfl | exact fun h => h | exact fun h => bL h | exact fun h => bL (bL h) | exact fun h => bL (bL (bL h)))) (Op1.of rfl (by first | exact fun _ => rfl | exact fun h => h | exact fun h => bL h | exact fun h => bL (bL h) | exact fun h => bL (bL (bL h)))) rfl (fun _ => ⟨by omega, by omega⟩) rfl ?_)
        obtain ⟨x, hx⟩ : ∃ x : Int, x = byteI s (i + (j + 1)) := ⟨_, rfl⟩
        have hxd := byteI_bd s (i + (j + 1))
        have hUx : U (s.getD (i + (j + 1)) 0) = .int .u8 x := by rw [hx]; rfl
        rw [hUx]
        rw [← hx] at hxd
        refine GL.cons (Step.convI tb rfl (Op1.of rfl (by first | exact fun _ => rfl | exact fun h => h | exact fun h => bL h | exact fun h => bL (bL h) | exact fun h => bL (bL (bL h)))) rfl rfl (wrap_i64 (by omega) (by omega)) rfl ?_)
        try (first | refine gl tb ?_ | refine gg tb ?_ | refine ll tb ?_ | refine lg tb ?_); repeat ((first | refine G.condT rfl ?_ | refine G.condF rfl ?_); try (first | refine gl tb ?_ | refine gg tb ?_ | refine ll tb ?_ | refine lg tb ?_))
        have hcn : contTo s i c (j + 1) = if x < 128 ∨ 192 ≤ x then none else some (64 * q + x - 128) := by simp only [contTo, hq, hx]
        first | refine G.condD rfl (fun hc => ?_) (fun hc => ?_) | refine G.condN rfl (fun hc => ?_) (fun hc => ?_) | refine G.cond rfl (fun hc => ?_) (fun hc => ?_)
        · try (first | refine gl tb ?_ | refine gg tb ?_ | refine ll tb ?_ | refine lg tb ?_); repeat ((first | refine G.condT rfl ?_ | refine G.condF rfl ?_); try (first | refine gl tb ?_ | refine gg tb ?_ | refine ll tb ?_ | refine lg tb ?_))
          refine G.ret1 rfl rfl rfl rfl ?_
          refine ⟨?_, rfl⟩
          simp only [Bool.or_eq_true, decide_eq_true_eq] at hc
          rw [if_pos hc] at hcn
          rw [hu, u8n, if_neg (by omega), contTo_none hcn (n - 1) (by omega)]; rfl
        · simp only [Bool.or_eq_false_iff, decide_eq_false_iff_not] at hc
          rw [if_neg (by omega)] at hcn
          try (first | refine gl tb ?_ | refine gg tb ?_ | refine ll tb ?_ | refine lg tb ?_); repeat ((first | refine G.condT rfl ?_ | refine G.condF rfl ?_); try (first | refine gl tb ?_ | refine gg tb ?_ | refine ll tb ?_ | refine lg tb ?_))
          refine GL.cons (Step.arith rfl (Op1.of rfl (by first | exact fun _ => rfl | exact fun h => h | exact fun h => bL h | exact fun h => bL (bL h) | exact fun h => bL (bL (bL h)))) (Op1.of rfl (by first | exact fun _ => rfl | exact fun h => h | exact fun h => bL h | exact fun h => bL (bL h) | exact fun h => bL (bL (bL h)))) (wrap_i64 (by omega) (by omega)) rfl ?_)
          try (first | refine gl tb ?_ | refine gg tb ?_ | refine ll tb ?_ | refine lg tb ?_); repeat ((first | refine G.condT rfl ?_ | refine G.condF rfl ?_); try (first | refine gl tb ?_ | refine gg tb ?_ | refine ll tb ?_ | refine lg tb ?_))
          refine GL.cons (Step.arith rfl (Op1.of rfl (by first | exact fun _ => rfl | exact fun h => h | exact fun h => bL h | exact fun h => bL (bL h) | exact fun h => bL (bL (bL h)))) (Op1.of rfl (by first | exact fun _ => rfl | exact fun h => h | exact fun h => bL h | exact fun h => bL (bL h) | exact fun h => bL (bL (bL h)))) (wrap_i64 (by omega) (by omega)) rfl ?_)
          try (first | refine gl tb ?_ | refine gg tb ?_ | refine ll tb ?_ | refine lg tb ?_); repeat ((first | refine G.condT rfl ?_ | refine G.condF rfl ?_); try (first | refine gl tb ?_ | refine gg tb ?_ | refine ll tb ?_ | refine lg tb ?_))
          refine GL.cons (Step.arith rfl (Op1.of rfl (by first | exact fun _ => rfl | exact fun h => h | exact fun h => bL h | exact fun h => bL (bL h) | exact fun h => bL (bL (bL h)))) (Op1.of rfl (by first | exact fun _ => rfl | exact fun h => h | exact fun h => bL h | exact fun h => bL (bL h) | exact fun h => bL (bL (bL h)))) (wrap_i64 (by omega) (by omega)) rfl ?_)
          try (first | refine gl tb ?_ | refine gg tb ?_ | refine ll tb ?_ | refine lg tb ?_); repeat ((first | refine G.condT rfl ?_ | refine G.condF rfl ?_); try (first | refine gl tb ?_ | refine gg tb ?_ | refine ll tb ?_ | refine lg tb ?_))
          refine GL.cons (Step.arith rfl (Op1.of rfl (by first | exact fun _ => rfl | exact fun h => h | exact fun h => bL h | exact fun h => bL (bL h) | exact fun h => bL (bL (bL h)))) (Op1.of rfl (by first | exact fun _ => rfl | exact fun h => h | exact fun h => bL h | exact fun h => bL (bL h) | exact fun h => bL (bL (bL h)))) (wrap_i64 (by omega) (by omega)) rfl ?_)
          try (first | refine gl tb ?_ | refine gg tb ?_ | refine ll tb ?_ | refine lg tb ?_); repeat ((first | refine G.condT rfl ?_ | refine G.condF rfl ?_); try (first | refine gl tb ?_ | refine gg tb ?_ | refine ll tb ?_ | refine lg tb ?_))
          exact G.lp (x := (j, q)) (j + 1, 64 * q + x - 128) (by repeat (first | exact Sub.nil _ | refine Sub.cons rfl ?_)) ⟨rfl, by simp only; omega, hcn⟩ (by simp only; omega)
      · have hjn : j = n - 1 := by omega
        try (first | refine gl tb ?_ | refine gg tb ?_ | refine ll tb ?_ | refine lg tb ?_); repeat ((first | refine G.condT rfl ?_ | refine G.condF rfl ?_); try (first | refine gl tb ?_ | refine gg tb ?_ | refine ll tb ?_ | refine lg tb ?_))
        first | refine G.condD rfl (fun hc => ?_) (fun hc => ?_) | refine G.condN rfl (fun hc => ?_) (fun hc => ?_) | refine G.cond rfl (fun hc => ?_) (fun hc => ?_)
        · try (first | refine gl tb ?_ | refine gg tb ?_ | refine ll tb ?_ | refine lg tb ?_); repeat ((first | refine G.condT rfl ?_ | refine G.condF rfl ?_); try (first | refine gl tb ?_ | refine gg tb ?_ | refine ll tb ?_ | refine lg tb ?_))
          refine G.ret1 rfl rfl rfl rfl ?_
          refine ⟨?_, rfl⟩
          rw [hu, u8n, if_neg (by omega), ← hjn, hq]
          simp only [badRune, hc, if_true]; rfl
        · try (first | refine gl tb ?_ | refine gg tb ?_ | refine ll tb ?_ | refine lg tb ?_); repeat ((first | refine G.condT rfl ?_ | refine G.condF rfl ?_); try (first | refine gl tb ?_ | refine gg tb ?_ | refine ll tb ?_ | refine lg tb ?_))
          refine G.ret1 rfl rfl rfl rfl ?_
          refine ⟨?_, rfl⟩
          rw [hu, u8n, if_neg (by omega), ← hjn, hq]
          simp only [badRune, hc, Bool.false_eq_true, if_false]
  · first | refine G.condD rfl (fun hc => ?_) (fun hc => ?_) | refine G.condN rfl (fun hc => ?_) (fun hc => ?_) | refine G.cond rfl (fun hc => ?_) (fun hc => ?_)
    · simp only [Bool.and_eq_true, decide_eq_true_eq] at hc
      try (first | refine gl tb ?_ | refine gg tb ?_ | refine ll tb ?_ | refine lg tb ?_); repeat ((first | refine G.condT rfl ?_ | refine G.condF rfl ?_); try (first | refine gl tb ?_ | refine gg tb ?_ | refine ll tb ?_ | refine lg tb ?_))
      refine GL.cons (Step.arith rfl (Op1.of rfl (by first | exact fun _ => rfl | exact fun h => h | exact fun h => bL h | exact fun h => bL (bL h) | exact fun h => bL (bL (bL h)))) (Op1.of rfl (by first | exact fun _ => rfl | exact fun h => h | exact fun h => bL h | exact fun h => bL (bL h) | exact fun h => bL (bL (bL h)))) (wrap_i64 (by omega) (by omega)) rfl ?_)
      try (first | refine gl tb ?_ | refine gg tb ?_ | refine ll tb ?_ | refine lg tb ?_); repeat ((first | refine G.condT rfl ?_ | refine G.condF rfl ?_); try (first | refine gl tb ?_ | refine gg tb ?_ | refine ll tb ?_ | refine lg tb ?_))
      exact G.met (4, b - 240, 65536) (by repeat (first | exact Sub.nil _ | refine Sub.cons rfl ?_)) ⟨rfl, by rw [lead, if_pos hc], by omega, by omega, by simp; omega, by simp; omega⟩
    · simp only [Bool.and_eq_false_iff, decide_eq_false_iff_not] at hc
      try (first | refine gl tb ?_ | refine gg tb ?_ | refine ll tb ?_ | refine lg tb ?_); repeat ((first | refine G.condT rfl ?_ | refine G.condF rfl ?_); try (first | refine gl tb ?_ | refine gg tb ?_ | refine ll tb ?_ | refine lg tb ?_))
      have hc1 := hc
      first | refine G.condD rfl (fun hc => ?_) (fun hc => ?_) | refine G.condN rfl (fun hc => ?_) (fun hc => ?_) | refine G.cond rfl (fun hc => ?_) (fun hc => ?_)
      · simp only [Bool.and_eq_true, decide_eq_true_eq] at hc
        try (first | refine gl tb ?_ | refine gg tb ?_ | refine ll tb ?_ | refine lg tb ?_); repeat ((first | refine G.condT rfl ?_ | refine G.condF rfl ?_); try (first | refine gl tb ?_ | refine gg tb ?_ | refine ll tb ?_ | refine lg tb ?_))
        refine GL.cons (Step.arith rfl (Op1.of rfl (by first | exact fun _ => rfl | exact fun h => h | exact fun h => bL h | exact fun h => bL (bL h) | exact fun h => bL (bL (bL h)))) (Op1.of rfl (by first | exact fun _ => rfl | exact fun h => h | exact fun h => bL h | exact fun h => bL (bL h) | exact fun h => bL (bL (bL h)))) (wrap_i64 (by omega) (by omega)) rfl ?_)
        try (first | refine gl tb ?_ | refine gg tb ?_ | refine ll tb ?_ | refine lg tb ?_); repeat ((first | refine G.condT rfl ?_ | refine G.condF rfl ?_); try (first | refine gl tb ?_ | refine gg tb ?_ | refine ll tb ?_ | refine lg tb ?_))
        exact G.met (3, b - 224, 2048) (by repeat (first | exact Sub.nil _ | refine Sub.cons rfl ?_)) ⟨rfl, by rw [lead, if_neg (by omega), if_pos hc], by omega, by omega, by simp; omega, by simp; omega⟩
      · simp only [Bool.and_eq_false_iff, decide_eq_false_iff_not] at hc
        try (first | refine gl tb ?_ | refine gg tb ?_ | refine ll tb ?_ | refine lg tb ?_); repeat ((first | refine G.condT rfl ?_ | refine G.condF rfl ?_); try (first | refine gl tb ?_ | refine gg tb ?_ | refine ll tb ?_ | refine lg tb ?_))
        have hc2 := hc
        first | refine G.condD rfl (fun hc => ?_) (fun hc => ?_) | refine G.condN rfl (fun hc => ?_) (fun hc => ?_) | refine G.cond rfl (fun hc => ?_) (fun hc => ?_)
        · simp only [Bool.and_eq_true, decide_eq_true_eq] at hc
          try (first | refine gl tb ?_ | refine gg tb ?_ | refine ll tb ?_ | refine lg tb ?_); repeat ((first | refine G.condT rfl ?_ | refine G.condF rfl ?_); try (first | refine gl tb ?_ | refine gg tb ?_ | refine ll tb ?_ | refine lg tb ?_))
          refine GL.cons (Step.arith rfl (Op1.of rfl (by first | exact fun _ => rfl | exact fun h => h | exact fun h => bL h | exact fun h => bL (bL h) | exact fun h => bL (bL (bL h)))) (Op1.of rfl (by first | exact fun _ => rfl | exact fun h => h | exact fun h => bL h | exact fun h => bL (bL h) | exact fun h => bL (bL (bL h)))) (wrap_i64 (by omega) (by omega)) rfl ?_)
          try (first | refine gl tb ?_ | refine gg tb ?_ | refine ll tb ?_ | refine lg tb ?_); repeat ((first | refine G.condT rfl ?_ | refine G.condF rfl ?_); try (first | refine gl tb ?_ | refine gg tb ?_ | refine ll tb ?_ | refine lg tb ?_))
          exact G.met (2, b - 192, 128) (by repeat (first | exact Sub.nil _ | refine Sub.cons rfl ?_)) ⟨rfl, by rw [lead, if_neg (by omega), if_neg (by omega), if_pos hc], by omega, by omega, by simp; omega, by simp; omega⟩
        · simp only [Bool.and_eq_false_iff, decide_eq_false_iff_not] at hc
          try (first | refine gl tb ?_ | refine gg tb ?_ | refine ll tb ?_ | refine lg tb ?_); repeat ((first | refine G.condT rfl ?_ | refine G.condF rfl ?_); try (first | refine gl tb ?_ | refine gg tb ?_ | refine ll tb ?_ | refine lg tb ?_))
          have hc3 := hc
          first | refine G.condD rfl (fun hc => ?_) (fun hc => ?_) | refine G.condN rfl (fun hc => ?_) (fun hc => ?_) | refine G.cond rfl (fun hc => ?_) (fun hc => ?_)
          · try (first | refine gl tb ?_ | refine gg tb ?_ | refine ll tb ?_ | refine lg tb ?_); repeat ((first | refine G.condT rfl ?_ | refine G.condF rfl ?_); try (first | refine gl tb ?_ | refine gg tb ?_ | refine ll tb ?_ | refine lg tb ?_))
            refine G.ret1 rfl rfl rfl rfl ?_
            refine ⟨?_, rfl⟩
            have : lead (byteI s i) = none := by rw [← hb, lead, if_neg (by omega), if_neg (by omega), if_neg (by omega), if_pos hc]
            simp only [u8len, this]
            rfl
          · try (first | refine gl tb ?_ | refine gg tb ?_ | refine ll tb ?_ | refine lg tb ?_); repeat ((first | refine G.condT rfl ?_ | refine G.condF rfl ?_); try (first | refine gl tb ?_ | refine gg tb ?_ | refine ll tb ?_ | refine lg tb ?_))
            exact G.met (1, b, 0) (by repeat (first | exact Sub.nil _ | refine Sub.cons rfl ?_)) ⟨rfl, by rw [lead, if_neg (by omega), if_neg (by omega), if_neg (by omega), if_neg hc], by omega, by omega, by simp; omega, by simp; omega⟩
end Go.Proofs.YtmkckngecjpklaaDoor.Lab
end
section
open Go Go.Vg Go.RowKit Go.Proofs Go.Proofs.YtmkckngecjpklaaDoor
namespace Go.Proofs.YtmkckngecjpklaaDoor.Lab
set_option linter.unusedSimpArgs false

def labAt (ls : List Lab) (k : Nat) : Lab := ls.getD k ([], [])
theorem Labs.getD {ls : List Lab} {k : Nat} (h : k < ls.length) : (ls.map labC)[k]? = some (labC (labAt ls k)) := by simp [labAt, h, List.getD]
theorem ltc {k n : Nat} (h : cv (some (decide ((k : Int) < (n : Int)))) = true) : k < n := by have := of_decide_eq_true h; omega
/-- how many labels come ahead of a name -/
def lessN (ls : List Lab) (name : List UInt8) : Nat := (ls.takeWhile fun x => Op.bytesLess x.1 name).length
def putL (ls : List Lab) (x : Lab) : List Lab := ls.takeWhile (fun y => Op.bytesLess y.1 x.1) ++ x :: ls.dropWhile (fun y => Op.bytesLess y.1 x.1)

theorem tw_step {α : Type} {p : α → Bool} (d : α) : ∀ (l : List α) (k : Nat), k ≤ (l.takeWhile p).length → ((k < l.length ∧ p (l.getD k d) = true) ↔ k < (l.takeWhile p).length)
  | [], k, _ => by simp
  | x :: l, 0, _ => by
    cases hp : p x <;> simp [hp]
  | x :: l, k + 1, h => by
    cases hp : p x with
    | false => simp [hp] at h
    | true =>
      simp only [List.takeWhile_cons, hp, if_true, List.length_cons] at h ⊢
      have := tw_step (p := p) d l k (by omega)
      simp only [List.getD_cons_succ]
      rw [Nat.add_lt_add_iff_right, Nat.add_lt_add_iff_right]
      exact this
theorem take_tw {α : Type} (p : α → Bool) (l : List α) : l.take (l.takeWhile p).length = l.takeWhile p := by
  have := List.takeWhile_append_dropWhile (p := p) (l := l)
  conv => lhs; rw [← this]
  rw [List.take_left']
  rw [this]
theorem drop_tw {α : Type} (p : α → Bool) (l : List α) : l.drop (l.takeWhile p).length = l.dropWhile p := by
  have := List.takeWhile_append_dropWhile (p := p) (l := l)
  conv => lhs; rw [← this]
  rw [List.drop_left']
  rw [this]
theorem lab1 (ls : List Lab) : ∀ y ∈ ls.map labC, ∀ c ∈ y, c.oneCell' = true := by
  intro y hy c hc
  obtain ⟨x, _, rfl⟩ := List.mem_map.1 hy
  simp only [labC, List.mem_cons, List.not_mem_nil, or_false] at hc
  rcases hc with rfl | rfl <;> rfl
theorem labLen (ls : List Lab) : ∀ x ∈ ls.map labC, x.length = 2 := by
  intro y hy
  obtain ⟨x, _, rfl⟩ := List.mem_map.1 hy
  rfl
theorem Labs.sub {w : World} {v : Value} {ls : List Lab} (hs : Labs w v ls) {l h : Nat} (hl : l ≤ h) (hh : h ≤ ls.length) : Labs w (subS v 2 l h) ((ls.drop l).take (h - l)) := by
  have := Sli.sub hs hl (by simpa using hh)
  unfold Labs
  rw [List.map_take, List.map_drop]; exact this

theorem put_ok (v : Value) (ls : List Lab) (x : Lab) (w : World) (hv : Labs w v ls) (hn : ls.length ≤ 1000) :
    Ret Tryd.prog 30 ⟨[v, .agg ⟨labC x⟩]⟩ w fun r w' => Owns w' w.heap.size r 42 2 ((putL ls x).map labC) ∧ Ext w w' := by
  refine ret_of_G Tryd.func30 rfl Tryd.ntmps30 rfl ?_
  simp only [argEnv]
  try (first | refine gl tb ?_ | refine gg tb ?_ | refine ll tb ?_ | refine lg tb ?_); repeat ((first | refine G.condT rfl ?_ | refine G.condF rfl ?_); try (first | refine gl tb ?_ | refine gg tb ?_ | refine ll tb ?_ | refine lg tb ?_))
  refine GL.cons (Step.box rfl (Op1.of rfl (by first | exact fun _ => rfl | exact fun h => h | exact fun h => bL h | exact fun h => bL (bL h) | exact fun h => bL (bL (bL h)))) (rfl) rfl ?_)
  intro w1 hb1 hs1 hx1
  have hv1 := hv.to hx1
  try (first | refine gl tb ?_ | refine gg tb ?_ | refine ll tb ?_ | refine lg tb ?_); repeat ((first | refine G.condT rfl ?_ | refine G.condF rfl ?_); try (first | refine gl tb ?_ | refine gg tb ?_ | refine ll tb ?_ | refine lg tb ?_))
  refine (G.loop (fun k : Nat => [(0, none, v), (3, none, ptr w.heap.size), (5, none, .int .i64 k)]) (fun k w' => Ext w1 w' ∧ k ≤ ls.length ∧ k ≤ lessN ls x.1) (fun k => ls.length - k) 0 (by repeat (first | exact Sub.nil _ | refine Sub.cons rfl ?_)) ⟨Ext.refl _, by omega, by omega⟩ ?_)
  rintro k w2 ⟨hx2, hk, hkl⟩
  have hv2 := hv1.to hx2
  have hb2 := hb1.to hx2
  try (first | refine gl tb ?_ | refine gg tb ?_ | refine ll tb ?_ | refine lg tb ?_); repeat ((first | refine G.condT rfl ?_ | refine G.condF rfl ?_); try (first | refine gl tb ?_ | refine gg tb ?_ | refine ll tb ?_ | refine lg tb ?_))
  refine G.regionM [(0, true), (1, true), (2, true), (3, true), (4, true), (5, true), (6, true), (7, true), (8, true), (9, true), (10, true), (11, true), (12, true), (13, true)] (Ext w2) (by kernel_rfl) (by kernel_rfl) rfl mixed (Ext.drew w2) rfl ?_
  repeat (first
    | refine GM.nil ?_
    | refine GM.read (fun w' hS => Step.move rfl (Op1.of rfl (by first | exact fun _ => rfl | exact fun h => h | exact fun h => bL h | exact fun h => bL (bL h) | exact fun h => bL (bL (bL h)))) rfl ⟨rfl, rfl⟩) rfl rfl ?_
    | refine GM.read (fun w' hS => Step.assign rfl (Op1.of rfl (by first | exact fun _ => rfl | exact fun h => h | exact fun h => bL h | exact fun h => bL (bL h) | exact fun h => bL (bL (bL h)))) rfl ⟨rfl, rfl⟩) rfl rfl ?_
    | refine GM.read (fun w' hS => Step.bin rfl (Op1.of rfl (by first | exact fun _ => rfl | exact fun h => h | exact fun h => bL h | exact fun h => bL (bL h) | exact fun h => bL (bL (bL h)))) (Op1.of rfl (by first | exact fun _ => rfl | exact fun h => h | exact fun h => bL h | exact fun h => bL (bL h) | exact fun h => bL (bL (bL h)))) rfl rfl ⟨rfl, rfl⟩) rfl rfl ?_
    | refine GM.read (fun w' hS => Step.and rfl (Op1.of rfl (by first | exact fun _ => rfl | exact fun h => h | exact fun h => bL h | exact fun h => bL (bL h) | exact fun h => bL (bL (bL h)))) rfl (by first | exact fun _ _ => rfl | exact fun _ h => h | exact fun _ h => bNot h | exact fun h k => bAnd h k | exact fun h k => bAnd h (bNot k)) rfl ⟨rfl, rfl⟩) rfl rfl ?_
    | refine GM.read (fun w' hS => Step.or rfl (Op1.of rfl (by first | exact fun _ => rfl | exact fun h => h | exact fun h => bL h | exact fun h => bL (bL h) | exact fun h => bL (bL (bL h)))) rfl (by first | exact fun _ _ => rfl | exact fun _ h => h | exact fun _ h => bNot h | exact fun h k => bAnd h k | exact fun h k => bAnd h (bNot k)) rfl ⟨rfl, rfl⟩) rfl rfl ?_
    | refine GM.read (fun w' hS => Step.lenS tb rfl (Op1.of rfl (by first | exact fun _ => rfl | exact fun h => h | exact fun h => bL h | exact fun h => bL (bL h) | exact fun h => bL (bL (bL h)))) rfl rfl ⟨rfl, rfl⟩) rfl rfl ?_
    | refine GM.read (fun w' hS => Step.un rfl (Op1.of rfl (by first | exact fun _ => rfl | exact fun h => h | exact fun h => bL h | exact fun h => bL (bL h) | exact fun h => bL (bL (bL h)))) rfl rfl ⟨rfl, rfl⟩) rfl rfl ?_
    | refine GM.read (fun w' hS => Step.extract rfl (Op1.of rfl (by first | exact fun _ => rfl | exact fun h => h | exact fun h => bL h | exact fun h => bL (bL h) | exact fun h => bL (bL (bL h)))) rfl rfl ⟨rfl, rfl⟩) rfl rfl ?_)
  refine GM.read (fun w' hS => Step.lenV tb rfl (Op1.of rfl (by first | exact fun _ => rfl | exact fun h => h | exact fun h => bL h | exact fun h => bL (bL h) | exact fun h => bL (bL (bL h)))) rfl (fun hc => ⟨_, hv2⟩) rfl ⟨rfl, rfl⟩) rfl rfl ?_
  simp only [List.length_map]
  repeat (first
    | refine GM.nil ?_
    | refine GM.read (fun w' hS => Step.move rfl (Op1.of rfl (by first | exact fun _ => rfl | exact fun h => h | exact fun h => bL h | exact fun h => bL (bL h) | exact fun h => bL (bL (bL h)))) rfl ⟨rfl, rfl⟩) rfl rfl ?_
    | refine GM.read (fun w' hS => Step.assign rfl (Op1.of rfl (by first | exact fun _ => rfl | exact fun h => h | exact fun h => bL h | exact fun h => bL (bL h) | exact fun h => bL (bL (bL h)))) rfl ⟨rfl, rfl⟩) rfl rfl ?_
    | refine GM.read (fun w' hS => Step.bin rfl (Op1.of rfl (by first | exact fun _ => rfl | exact fun h => h | exact fun h => bL h | exact fun h => bL (bL h) | exact fun h => bL (bL (bL h)))) (Op1.of rfl (by first | exact fun _ => rfl | exact fun h => h | exact fun h => bL h | exact fun h => bL (bL h) | exact fun h => bL (bL (bL h)))) rfl rfl ⟨rfl, rfl⟩) rfl rfl ?_
    | refine GM.read (fun w' hS => Step.and rfl (Op1.of rfl (by first | exact fun _ => rfl | exact fun h => h | exact fun h => bL h | exact fun h => bL (bL h) | exact fun h => bL (bL (bL h)))) rfl (by first | exact fun _ _ => rfl | exact fun _ h => h | exact fun _ h => bNot h | exact fun h k => bAnd h k | exact fun h k => bAnd h (bNot k)) rfl ⟨rfl, rfl⟩) rfl rfl ?_
    | refine GM.read (fun w' hS => Step.or rfl (Op1.of rfl (by first | exact fun _ => rfl | exact fun h => h | exact fun h => bL h | exact fun h => bL (bL h) | exact fun h => bL (bL (bL h)))) rfl (by first | exact fun _ _ => rfl | exact fun _ h => h | exact fun _ h => bNot h | exact fun h k => bAnd h k | exact fun h k => bAnd h (bNot k)) rfl ⟨rfl, rfl⟩) rfl rfl ?_
    | refine GM.read (fun w' hS => Step.lenS tb rfl (Op1.of rfl (by first | exact fun _ => rfl | exact fun h => h | exact fun h => bL h | exact fun h => bL (bL h) | exact fun h => bL (bL (bL h)))) rfl rfl ⟨rfl, rfl⟩) rfl rfl ?_
    | refine GM.read (fun w' hS => Step.un rfl (Op1.of rfl (by first | exact fun _ => rfl | exact fun h => h | exact fun h => bL h | exact fun h => bL (bL h) | exact fun h => bL (bL (bL h)))) rfl rfl ⟨rfl, rfl⟩) rfl rfl ?_
    | refine GM.read (fun w' hS => Step.extract rfl (Op1.of rfl (by first | exact fun _ => rfl | exact fun h => h | exact fun h => bL h | exact fun h => bL (bL h) | exact fun h => bL (bL (bL h)))) rfl rfl ⟨rfl, rfl⟩) rfl rfl ?_)
  refine GM.read (fun w' hS => Step.indexAddr tb k rfl (Op1.of rfl (by first | exact fun _ => rfl | exact fun h => h | exact fun h => bL h | exact fun h => bL (bL h) | exact fun h => bL (bL (bL h)))) (Op1.of rfl (by first | exact fun _ => rfl | exact fun h => h | exact fun h => bL h | exact fun h => bL (bL h) | exact fun h => bL (bL (bL h)))) rfl rfl (fun hc => ⟨_, hv2⟩) (fun hc => ⟨rfl, by rw [List.length_map]; exact ltc hc⟩) rfl ⟨rfl, rfl⟩) rfl rfl ?_
  refine GM.read (fun w' hS => Step.fieldAddr tb rfl (Op1.of rfl (by first | exact fun _ => rfl | exact fun h => h | exact fun h => bL h | exact fun h => bL (bL h) | exact fun h => bL (bL (bL h)))) rfl rfl rfl rfl (fun hc => (hv2.elem (Labs.getD (ltc hc))).ptr) rfl ⟨rfl, rfl⟩) rfl rfl ?_
  refine GM.read (fun w' hS => Step.load1 tb rfl (Op1.of rfl (by first | exact fun _ => rfl | exact fun h => h | exact fun h => bL h | exact fun h => bL (bL h) | exact fun h => bL (bL (bL h)))) rfl rfl (fun hc => ((hv2.to hS).elem (Labs.getD (ltc hc))).cell (i := 0) rfl) rfl ⟨rfl, rfl⟩) rfl rfl ?_
  refine GM.read (fun w' hS => Step.fieldAddr tb rfl (Op1.of rfl (by first | exact fun _ => rfl | exact fun h => h | exact fun h => bL h | exact fun h => bL (bL h) | exact fun h => bL (bL (bL h)))) rfl rfl rfl rfl (fun hc => ptr_ptr _) rfl ⟨rfl, rfl⟩) rfl rfl ?_
  refine GM.read (fun w' hS => Step.load1 tb rfl (Op1.of rfl (by first | exact fun _ => rfl | exact fun h => h | exact fun h => bL h | exact fun h => bL (bL h) | exact fun h => bL (bL (bL h)))) rfl rfl (fun hc => (hb2.to hS).cells.cell (i := 0) rfl) rfl ⟨rfl, rfl⟩) rfl rfl ?_
  repeat (first
    | refine GM.nil ?_
    | refine GM.read (fun w' hS => Step.move rfl (Op1.of rfl (by first | exact fun _ => rfl | exact fun h => h | exact fun h => bL h | exact fun h => bL (bL h) | exact fun h => bL (bL (bL h)))) rfl ⟨rfl, rfl⟩) rfl rfl ?_
    | refine GM.read (fun w' hS => Step.assign rfl (Op1.of rfl (by first | exact fun _ => rfl | exact fun h => h | exact fun h => bL h | exact fun h => bL (bL h) | exact fun h => bL (bL (bL h)))) rfl ⟨rfl, rfl⟩) rfl rfl ?_
    | refine GM.read (fun w' hS => Step.bin rfl (Op1.of rfl (by first | exact fun _ => rfl | exact fun h => h | exact fun h => bL h | exact fun h => bL (bL h) | exact fun h => bL (bL (bL h)))) (Op1.of rfl (by first | exact fun _ => rfl | exact fun h => h | exact fun h => bL h | exact fun h => bL (bL h) | exact fun h => bL (bL (bL h)))) rfl rfl ⟨rfl, rfl⟩) rfl rfl ?_
    | refine GM.read (fun w' hS => Step.and rfl (Op1.of rfl (by first | exact fun _ => rfl | exact fun h => h | exact fun h => bL h | exact fun h => bL (bL h) | exact fun h => bL (bL (bL h)))) rfl (by first | exact fun _ _ => rfl | exact fun _ h => h | exact fun _ h => bNot h | exact fun h k => bAnd h k | exact fun h k => bAnd h (bNot k)) rfl ⟨rfl, rfl⟩) rfl rfl ?_
    | refine GM.read (fun w' hS => Step.or rfl (Op1.of rfl (by first | exact fun _ => rfl | exact fun h => h | exact fun h => bL h | exact fun h => bL (bL h) | exact fun h => bL (bL (bL h)))) rfl (by first | exact fun _ _ => rfl | exact fun _ h => h | exact fun _ h => bNot h | exact fun h k => bAnd h k | exact fun h k => bAnd h (bNot k)) rfl ⟨rfl, rfl⟩) rfl rfl ?_
    | refine GM.read (fun w' hS => Step.lenS tb rfl (Op1.of rfl (by first | exact fun _ => rfl | exact fun h => h | exact fun h => bL h | exact fun h => bL (bL h) | exact fun h => bL (bL (bL h)))) rfl rfl ⟨rfl, rfl⟩) rfl rfl ?_
    | refine GM.read (fun w' hS => Step.un rfl (Op1.of rfl (by first | exact fun _ => rfl | exact fun h => h | exact fun h => bL h | exact fun h => bL (bL h) | exact fun h => bL (bL (bL h)))) rfl rfl ⟨rfl, rfl⟩) rfl rfl ?_
    | refine GM.read (fun w' hS => Step.extract rfl (Op1.of rfl (by first | exact fun _ => rfl | exact fun h => h | exact fun h => bL h | exact fun h => bL (bL h) | exact fun h => bL (bL (bL h)))) rfl rfl ⟨rfl, rfl⟩) rfl rfl ?_)
  have hstep := tw_step (p := fun y : Lab => Op.bytesLess y.1 x.1) ([], []) ls k hkl
  first | refine G.condD rfl (fun hc => ?_) (fun hc => ?_) | refine G.condN rfl (fun hc => ?_) (fun hc => ?_) | refine G.cond rfl (fun hc => ?_) (fun hc => ?_)
  · have hlt : k < lessN ls x.1 := by
      refine hstep.1 ?_
      simp only [Bool.and_eq_true, decide_eq_true_eq] at hc
      exact ⟨by omega, hc.2⟩
    have hll : lessN ls x.1 ≤ ls.length := (List.takeWhile_sublist _).length_le
    try (first | refine gl tb ?_ | refine gg tb ?_ | refine ll tb ?_ | refine lg tb ?_); repeat ((first | refine G.condT rfl ?_ | refine G.condF rfl ?_); try (first | refine gl tb ?_ | refine gg tb ?_ | refine ll tb ?_ | refine lg tb ?_))
    refine GL.cons (Step.arith rfl (Op1.of rfl (by first | exact fun _ => rfl | exact fun h => h | exact fun h => bL h | exact fun h => bL (bL h) | exact fun h => bL (bL (bL h)))) (Op1.of rfl (by first | exact fun _ => rfl | exact fun h => h | exact fun h => bL h | exact fun h => bL (bL h) | exact fun h => bL (bL (bL h)))) (wrap_i64 (by omega) (by omega)) rfl ?_)
    try (first | refine gl tb ?_ | refine gg tb ?_ | refine ll tb ?_ | refine lg tb ?_); repeat ((first | refine G.condT rfl ?_ | refine G.condF rfl ?_); try (first | refine gl tb ?_ | refine gg tb ?_ | refine ll tb ?_ | refine lg tb ?_))
    exact G.lp (k + 1) (by repeat (first | exact Sub.nil _ | refine Sub.cons rfl ?_)) ⟨hx2.trans (Ext.drew w2), by omega, by omega⟩ (by omega)
  · have hke : k = (ls.takeWhile fun y => Op.bytesLess y.1 x.1).length := by
      refine Nat.le_antisymm hkl (Nat.le_of_not_lt fun h => ?_)
      have := hstep.2 h
      rw [Bool.and_eq_false_iff] at hc
      rcases hc with hc | hc
      · simp at hc; omega
      · have h2 : Op.bytesLess (labAt ls k).1 x.1 = true := this.2
        rw [h2] at hc; cases hc
    have hxd : Ext w w2.drew := (hx1.trans hx2).trans (Ext.drew w2)
    have hsz : w.heap.size < w2.drew.heap.size := by have := hx2.size; simp only [World.size_drew]; omega
    have hv3 : Labs w2.drew v ls := hv2.to (Ext.drew w2)
    have hb3 := hb2.drew
    generalize w2.drew = w3 at *
    try (first | refine gl tb ?_ | refine gg tb ?_ | refine ll tb ?_ | refine lg tb ?_); repeat ((first | refine G.condT rfl ?_ | refine G.condF rfl ?_); try (first | refine gl tb ?_ | refine gg tb ?_ | refine ll tb ?_ | refine lg tb ?_))
    refine GL.cons (Step.buildSlice tb ([]) rfl rfl rfl rfl rfl rfl (by rfl) rfl (by rfl) (by rfl) (by rfl) (by simp) rfl ?_)
    intro s1 w4 ho1 hs4 hx4
    try (first | refine gl tb ?_ | refine gg tb ?_ | refine ll tb ?_ | refine lg tb ?_); repeat ((first | refine G.condT rfl ?_ | refine G.condF rfl ?_); try (first | refine gl tb ?_ | refine gg tb ?_ | refine ll tb ?_ | refine lg tb ?_))
    refine GL.cons (Step.sliceVh tb k rfl (Op1.of rfl (by first | exact fun _ => rfl | exact fun h => h | exact fun h => bL h | exact fun h => bL (bL h) | exact fun h => bL (bL (bL h)))) (Op1.of rfl (by first | exact fun _ => rfl | exact fun h => h | exact fun h => bL h | exact fun h => bL (bL h) | exact fun h => bL (bL (bL h)))) rfl rfl (fun _ => ⟨_, hv3⟩) (fun _ => ⟨rfl, by rw [List.length_map]; omega⟩) rfl ?_)
    have hsub := Labs.sub (hv3.to hx4) (Nat.zero_le k) hk
    have ho1' := ho1.mono (B' := w.heap.size) (by omega)
    refine GL.cons (Step.append tb rfl (Op1.of rfl (by first | exact fun _ => rfl | exact fun h => h | exact fun h => bL h | exact fun h => bL (bL h) | exact fun h => bL (bL (bL h)))) (Op1.of rfl (by first | exact fun _ => rfl | exact fun h => h | exact fun h => bL h | exact fun h => bL (bL h) | exact fun h => bL (bL (bL h)))) rfl rfl rfl (by rfl) (ho1') (hsub) (lab1 _) (by simp only [List.length_map, List.length_append, List.length_cons, List.length_nil, List.length_take, List.length_drop]; omega) (by simp only [List.length_map, List.length_append, List.length_cons, List.length_nil, List.length_take, List.length_drop]; omega) (by omega) rfl ?_)
    intro s2 w5 ho2 hg5
    have hx5 : Ext w w5 := hg5.below _ (hxd.trans hx4)
    have hb5 : Bx w5 w.heap.size (labC x) := (hb3.to hx4).grew hg5 (ho1.ne hsz)
    try (first | refine gl tb ?_ | refine gg tb ?_ | refine ll tb ?_ | refine lg tb ?_); repeat ((first | refine G.condT rfl ?_ | refine G.condF rfl ?_); try (first | refine gl tb ?_ | refine gg tb ?_ | refine ll tb ?_ | refine lg tb ?_))
    refine GL.cons (Step.loadA tb rfl (Op1.of rfl (by first | exact fun _ => rfl | exact fun h => h | exact fun h => bL h | exact fun h => bL (bL h) | exact fun h => bL (bL (bL h)))) rfl rfl rfl (fun _ => hb5.cells) (fun _ => rfl) rfl ?_)
    refine GL.cons (Step.buildSlice tb ([labC x]) rfl rfl rfl rfl rfl rfl (by rfl) rfl (by rfl) (by rfl) (by rfl) (labLen [x]) rfl ?_)
    intro s3 w6 ho3 hs6 hx6
    refine GL.cons (Step.append tb rfl (Op1.of rfl (by first | exact fun _ => rfl | exact fun h => h | exact fun h => bL h | exact fun h => bL (bL h) | exact fun h => bL (bL (bL h)))) (Op1.of rfl (by first | exact fun _ => rfl | exact fun h => h | exact fun h => bL h | exact fun h => bL (bL h) | exact fun h => bL (bL (bL h)))) rfl rfl rfl (by rfl) (ho2.to hx6) (ho3.sli) (lab1 [x]) (by simp only [List.length_map, List.length_append, List.length_cons, List.length_nil, List.length_take, List.length_drop]; omega) (by simp only [List.length_map, List.length_append, List.length_cons, List.length_nil, List.length_take, List.length_drop]; omega) (by have := (hx5.trans hx6).size; omega) rfl ?_)
    intro s4 w7 ho4 hg7
    have hx7 : Ext w w7 := hg7.below _ (hx5.trans hx6)
    try (first | refine gl tb ?_ | refine gg tb ?_ | refine ll tb ?_ | refine lg tb ?_); repeat ((first | refine G.condT rfl ?_ | refine G.condF rfl ?_); try (first | refine gl tb ?_ | refine gg tb ?_ | refine ll tb ?_ | refine lg tb ?_))
    have hv7 := hv.to hx7
    refine GL.cons (Step.sliceVl tb k rfl (Op1.of rfl (by first | exact fun _ => rfl | exact fun h => h | exact fun h => bL h | exact fun h => bL (bL h) | exact fun h => bL (bL (bL h)))) (Op1.of rfl (by first | exact fun _ => rfl | exact fun h => h | exact fun h => bL h | exact fun h => bL (bL h) | exact fun h => bL (bL (bL h)))) rfl rfl (fun _ => ⟨_, hv7⟩) (fun _ => ⟨rfl, by rw [List.length_map]; omega⟩) rfl ?_)
    rw [List.length_map]
    have hsub2 := Labs.sub hv7 hk (Nat.le_refl _)
    refine GL.cons (Step.append tb rfl (Op1.of rfl (by first | exact fun _ => rfl | exact fun h => h | exact fun h => bL h | exact fun h => bL (bL h) | exact fun h => bL (bL (bL h)))) (Op1.of rfl (by first | exact fun _ => rfl | exact fun h => h | exact fun h => bL h | exact fun h => bL (bL h) | exact fun h => bL (bL (bL h)))) rfl rfl rfl (by rfl) (ho4) (hsub2) (lab1 _) (by simp only [List.length_map, List.length_append, List.length_cons, List.length_nil, List.length_take, List.length_drop]; omega) (by simp only [List.length_map, List.length_append, List.length_cons, List.length_nil, List.length_take, List.length_drop]; omega) (by have := hx7.size; omega) rfl ?_)
    intro s5 w8 ho5 hg8
    have hx8 : Ext w w8 := hg8.below _ hx7
    try (first | refine gl tb ?_ | refine gg tb ?_ | refine ll tb ?_ | refine lg tb ?_); repeat ((first | refine G.condT rfl ?_ | refine G.condF rfl ?_); try (first | refine gl tb ?_ | refine gg tb ?_ | refine ll tb ?_ | refine lg tb ?_))
    refine G.ret1 rfl rfl rfl rfl ?_
    refine ⟨?_, hx8⟩
    have e : [] ++ List.map labC ((ls.drop 0).take (k - 0)) ++ [labC x] ++ List.map labC ((ls.drop k).take (ls.length - k)) = (putL ls x).map labC := by
      have h1 : (ls.drop 0).take (k - 0) = ls.takeWhile fun y => Op.bytesLess y.1 x.1 := by rw [List.drop_zero, Nat.sub_zero, hke]; exact take_tw _ _
      have h2 : (ls.drop k).take (ls.length - k) = ls.dropWhile fun y => Op.bytesLess y.1 x.1 := by rw [List.take_of_length_le (by simp), hke]; exact drop_tw _ _
      rw [h1, h2]
      simp [putL]
    rw [← e]; exact ho5
end Go.Proofs.YtmkckngecjpklaaDoor.Lab
end
section
open Go Go.Vg Go.RowKit Go.Proofs Go.Proofs.YtmkckngecjpklaaDoor
namespace Go.Proofs.YtmkckngecjpklaaDoor.Lab
set_option linter.unusedSimpArgs false

theorem u8n_le (s : List UInt8) (i n : Nat) (c l : Int) (hi : i ≤ s.length) : i + u8n s i n c l ≤ s.length := by
  unfold u8n
  by_cases h : s.length < i + n
  · rw [if_pos h]; exact hi
  · rw [if_neg h]
    split
    · exact hi
    · split
      · exact hi
      · omega
theorem u8len_le (s : List UInt8) (i : Nat) (hi : i ≤ s.length) : i + u8len s i ≤ s.length := by
  unfold u8len
  split
  · exact hi
  · exact u8n_le _ _ _ _ _ hi
def validGo (s : List UInt8) : Nat → Nat → Bool
  | 0, _ => true
  | m + 1, i => if s.length ≤ i then true else if u8len s i = 0 then false else validGo s m (i + u8len s i)
def validU (s : List UInt8) : Bool := validGo s s.length 0
theorem validGo_end (s : List UInt8) : ∀ (m i : Nat), s.length ≤ i → validGo s m i = true
  | 0, _, _ => rfl
  | m + 1, i, h => by rw [validGo, if_pos h]
theorem validGo_fuel (s : List UInt8) : ∀ (m k i : Nat), s.length - i ≤ m → s.length - i ≤ k → validGo s m i = validGo s k i := by
  intro m
  induction m with
  | zero => intro k i h _; rw [validGo_end s 0 i (by omega), validGo_end s k i (by omega)]
  | succ m ih =>
    intro k i h h2
    cases k with
    | zero => rw [validGo_end s 0 i (by omega), validGo_end s (m + 1) i (by omega)]
    | succ k =>
      simp only [validGo]
      by_cases he : s.length ≤ i
      · rw [if_pos he, if_pos he]
      · rw [if_neg he, if_neg he]
        by_cases hz : u8len s i = 0
        · rw [if_pos hz, if_pos hz]
        · rw [if_neg hz, if_neg hz]
          exact ih _ _ (by omega) (by omega)
theorem validGo_step {s : List UInt8} {i : Nat} (hi : i < s.length) (hz : u8len s i ≠ 0) : validGo s (s.length - i) i = validGo s (s.length - (i + u8len s i)) (i + u8len s i) := by
  rw [validGo_fuel s (s.length - i) ((s.length - i - 1) + 1) i (by omega) (by omega), validGo, if_neg (by omega), if_neg hz]
  exact validGo_fuel _ _ _ _ (by omega) (by omega)
theorem validGo_no {s : List UInt8} {i : Nat} (hi : i < s.length) (hz : u8len s i = 0) : validGo s (s.length - i) i = false := by
  rw [validGo_fuel s (s.length - i) ((s.length - i - 1) + 1) i (by omega) (by omega), validGo, if_neg (by omega), if_pos hz]

theorem valid_ok (s : List UInt8) (w : World) (hs : s.length ≤ 140737488355328) :
    Ret Tryd.prog 66 ⟨[S s]⟩ w fun v w' => v = .bool (validU s) ∧ Ext w w' := by
  refine ret_of_G Tryd.func66 rfl Tryd.ntmps66 rfl ?_
  simp only [argEnv]
  try (first | refine gl tb ?_ | refine gg tb ?_ | refine ll tb ?_ | refine lg tb ?_); repeat ((first | refine G.condT rfl ?_ | refine G.condF rfl ?_); try (first | refine gl tb ?_ | refine gg tb ?_ | refine ll tb ?_ | refine lg tb ?_))
  refine (G.loop (fun i : Nat => [(0, none, S s), (3, none, .int .i64 i)]) (fun i w' => w' = w ∧ i ≤ s.length ∧ validGo s (s.length - i) i = validU s) (fun i => s.length - i) 0 (by repeat (first | exact Sub.nil _ | refine Sub.cons rfl ?_)) ⟨rfl, by omega, rfl⟩ ?_)
  rintro i w ⟨rfl, hk, hto⟩
  try (first | refine gl tb ?_ | refine gg tb ?_ | refine ll tb ?_ | refine lg tb ?_); repeat ((first | refine G.condT rfl ?_ | refine G.condF rfl ?_); try (first | refine gl tb ?_ | refine gg tb ?_ | refine ll tb ?_ | refine lg tb ?_))
  first | refine G.condD rfl (fun hc => ?_) (fun hc => ?_) | refine G.condN rfl (fun hc => ?_) (fun hc => ?_) | refine G.cond rfl (fun hc => ?_) (fun hc => ?_)
  · have hlt : i < s.length := by omega
    try (first | refine gl tb ?_ | refine gg tb ?_ | refine ll tb ?_ | refine lg tb ?_); repeat ((first | refine G.condT rfl ?_ | refine G.condF rfl ?_); try (first | refine gl tb ?_ | refine gg tb ?_ | refine ll tb ?_ | refine lg tb ?_))
    refine GL.cons (Step.callF rfl rfl rfl c80 rfl (utf8_ok s i w hs hlt) ?_)
    rintro _ _ ⟨rfl, rfl⟩
    have hle := u8len_le s i hk
    try (first | refine gl tb ?_ | refine gg tb ?_ | refine ll tb ?_ | refine lg tb ?_); repeat ((first | refine G.condT rfl ?_ | refine G.condF rfl ?_); try (first | refine gl tb ?_ | refine gg tb ?_ | refine ll tb ?_ | refine lg tb ?_))
    first | refine G.condD rfl (fun hc => ?_) (fun hc => ?_) | refine G.condN rfl (fun hc => ?_) (fun hc => ?_) | refine G.cond rfl (fun hc => ?_) (fun hc => ?_)
    · try (first | refine gl tb ?_ | refine gg tb ?_ | refine ll tb ?_ | refine lg tb ?_); repeat ((first | refine G.condT rfl ?_ | refine G.condF rfl ?_); try (first | refine gl tb ?_ | refine gg tb ?_ | refine ll tb ?_ | refine lg tb ?_))
      refine G.ret1 rfl rfl rfl rfl ?_
      refine ⟨?_, Ext.refl _⟩
      rw [← hto, validGo_no hlt (by omega)]
    · try (first | refine gl tb ?_ | refine gg tb ?_ | refine ll tb ?_ | refine lg tb ?_); repeat ((first | refine G.condT rfl ?_ | refine G.condF rfl ?_); try (first | refine gl tb ?_ | refine gg tb ?_ | refine ll tb ?_ | refine lg tb ?_))
      refine GL.cons (Step.arith rfl (Op1.of rfl (by first | exact fun _ => rfl | exact fun h => h | exact fun h => bL h | exact fun h => bL (bL h) | exact fun h => bL (bL (bL h)))) (Op1.of rfl (by first | exact fun _ => rfl | exact fun h => h | exact fun h => bL h | exact fun h => bL (bL h) | exact fun h => bL (bL (bL h)))) (wrap_i64 (by omega) (by omega)) rfl ?_)
      try (first | refine gl tb ?_ | refine gg tb ?_ | refine ll tb ?_ | refine lg tb ?_); repeat ((first | refine G.condT rfl ?_ | refine G.condF rfl ?_); try (first | refine gl tb ?_ | refine gg tb ?_ | refine ll tb ?_ | refine lg tb ?_))
      refine G.lp (i + u8len s i) (by repeat (first | exact Sub.nil _ | refine Sub.cons rfl ?_)) ⟨rfl, hle, ?_⟩ (by omega)
      rw [← hto, validGo_step hlt (by omega)]
  · try (first | refine gl tb ?_ | refine gg tb ?_ | refine ll tb ?_ | refine lg tb ?_); repeat ((first | refine G.condT rfl ?_ | refine G.condF rfl ?_); try (first | refine gl tb ?_ | refine gg tb ?_ | refine ll tb ?_ | refine lg tb ?_))
    refine G.ret1 rfl rfl rfl rfl ?_
    refine ⟨?_, Ext.refl _⟩
    rw [← hto, validGo_end _ _ _ (by omega)]

def rightV (s : List UInt8) : Bool := decide ((s.length : Int) ≤ 1024) && validU s
theorem refValue_ok (s : List UInt8) (w : World) (hs : s.length ≤ 9223372036854775807) :
    Ret Tryd.prog 45 ⟨[S s]⟩ w fun v w' => v = .bool (rightV s) ∧ Ext w w' := by
  refine ret_of_G Tryd.func45 rfl Tryd.ntmps45 rfl ?_
  simp only [argEnv]
  try (first | refine gl tb ?_ | refine gg tb ?_ | refine ll tb ?_ | refine lg tb ?_); repeat ((first | refine G.condT rfl ?_ | refine G.condF rfl ?_); try (first | refine gl tb ?_ | refine gg tb ?_ | refine ll tb ?_ | refine lg tb ?_))
  refine GL.cons (Step.callX rfl rfl (by repeat (first | exact OpL.nil | refine OpL.cons (Op1.of rfl (by first | exact fun _ => rfl | exact fun h => h | exact fun h => bL h | exact fun h => bL (bL h) | exact fun h => bL (bL (bL h)))) ?_)) c66 rfl (fun hc => valid_ok s w (by have := of_decide_eq_true hc; omega)) ?_)
  intro w1 hx
  try (first | refine gl tb ?_ | refine gg tb ?_ | refine ll tb ?_ | refine lg tb ?_); repeat ((first | refine G.condT rfl ?_ | refine G.condF rfl ?_); try (first | refine gl tb ?_ | refine gg tb ?_ | refine ll tb ?_ | refine lg tb ?_))
  refine G.ret1 rfl rfl rfl rfl ?_
  exact ⟨rfl, hx⟩

def Sz (s : List UInt8) : Prop := s.length ≤ 9223372036854775807
def LabSz (x : Lab) : Prop := Sz x.1 ∧ Sz x.2
def nameS : List UInt8 := [95, 95, 110, 97, 109, 101, 95, 95]
/-- may a label be in a set, but for an empty value? -/
def fairB (x : Lab) : Bool := (namedB false x.1 && rightV x.2) && (!decide (x.1 = nameS) || decide (x.2 = []) || namedB true x.2)
theorem fair_ok (x : Lab) (w : World) (hx : LabSz x) :
    Ret Tryd.prog 28 ⟨[.agg ⟨labC x⟩]⟩ w fun v w' => v = .bool (fairB x) ∧ Ext w w' := by
  refine ret_of_G Tryd.func28 rfl Tryd.ntmps28 rfl ?_
  simp only [argEnv]
  try (first | refine gl tb ?_ | refine gg tb ?_ | refine ll tb ?_ | refine lg tb ?_); repeat ((first | refine G.condT rfl ?_ | refine G.condF rfl ?_); try (first | refine gl tb ?_ | refine gg tb ?_ | refine ll tb ?_ | refine lg tb ?_))
  refine GL.cons (Step.box rfl (Op1.of rfl (by first | exact fun _ => rfl | exact fun h => h | exact fun h => bL h | exact fun h => bL (bL h) | exact fun h => bL (bL (bL h)))) (rfl) rfl ?_)
  intro w1 hb1 hs1 hx1
  try (first | refine gl tb ?_ | refine gg tb ?_ | refine ll tb ?_ | refine lg tb ?_); repeat ((first | refine G.condT rfl ?_ | refine G.condF rfl ?_); try (first | refine gl tb ?_ | refine gg tb ?_ | refine ll tb ?_ | refine lg tb ?_))
  refine GL.cons (Step.fieldAddr tb rfl (Op1.of rfl (by first | exact fun _ => rfl | exact fun h => h | exact fun h => bL h | exact fun h => bL (bL h) | exact fun h => bL (bL (bL h)))) rfl rfl rfl rfl (fun _ => (hb1.cells).ptr) rfl ?_); refine GL.cons (Step.load1 tb rfl (Op1.of rfl (by first | exact fun _ => rfl | exact fun h => h | exact fun h => bL h | exact fun h => bL (bL h) | exact fun h => bL (bL (bL h)))) rfl rfl (fun _ => (hb1.cells).cell (i := 0) rfl) rfl ?_)
  refine GL.cons (Step.callX rfl rfl (by repeat (first | exact OpL.nil | refine OpL.cons (Op1.of rfl (by first | exact fun _ => rfl | exact fun h => h | exact fun h => bL h | exact fun h => bL (bL h) | exact fun h => bL (bL (bL h)))) ?_)) c44 rfl (fun hc => refName_ok x.1 w1 hx.1) ?_)
  intro w2 hx2
  have hb2 := hb1.to hx2
  try (first | refine gl tb ?_ | refine gg tb ?_ | refine ll tb ?_ | refine lg tb ?_); repeat ((first | refine G.condT rfl ?_ | refine G.condF rfl ?_); try (first | refine gl tb ?_ | refine gg tb ?_ | refine ll tb ?_ | refine lg tb ?_))
  refine GL.cons (Step.fieldAddr tb rfl (Op1.of rfl (by first | exact fun _ => rfl | exact fun h => h | exact fun h => bL h | exact fun h => bL (bL h) | exact fun h => bL (bL (bL h)))) rfl rfl rfl rfl (fun _ => (hb2.cells).ptr) rfl ?_); refine GL.cons (Step.load1 tb rfl (Op1.of rfl (by first | exact fun _ => rfl | exact fun h => h | exact fun h => bL h | exact fun h => bL (bL h) | exact fun h => bL (bL (bL h)))) rfl rfl (fun _ => (hb2.cells).cell (i := 1) rfl) rfl ?_)
  refine GL.cons (Step.callX rfl rfl (by repeat (first | exact OpL.nil | refine OpL.cons (Op1.of rfl (by first | exact fun _ => rfl | exact fun h => h | exact fun h => bL h | exact fun h => bL (bL h) | exact fun h => bL (bL (bL h)))) ?_)) c45 rfl (fun hc => refValue_ok x.2 w2 hx.2) ?_)
  intro w3 hx3
  have hb3 := hb2.to hx3
  try (first | refine gl tb ?_ | refine gg tb ?_ | refine ll tb ?_ | refine lg tb ?_); repeat ((first | refine G.condT rfl ?_ | refine G.condF rfl ?_); try (first | refine gl tb ?_ | refine gg tb ?_ | refine ll tb ?_ | refine lg tb ?_))
  refine GL.cons (Step.fieldAddr tb rfl (Op1.of rfl (by first | exact fun _ => rfl | exact fun h => h | exact fun h => bL h | exact fun h => bL (bL h) | exact fun h => bL (bL (bL h)))) rfl rfl rfl rfl (fun _ => (hb3.cells).ptr) rfl ?_); refine GL.cons (Step.load1 tb rfl (Op1.of rfl (by first | exact fun _ => rfl | exact fun h => h | exact fun h => bL h | exact fun h => bL (bL h) | exact fun h => bL (bL (bL h)))) rfl rfl (fun _ => (hb3.cells).cell (i := 0) rfl) rfl ?_)
  try (first | refine gl tb ?_ | refine gg tb ?_ | refine ll tb ?_ | refine lg tb ?_); repeat ((first | refine G.condT rfl ?_ | refine G.condF rfl ?_); try (first | refine gl tb ?_ | refine gg tb ?_ | refine ll tb ?_ | refine lg tb ?_))
  refine GL.cons (Step.fieldAddr tb rfl (Op1.of rfl (by first | exact fun _ => rfl | exact fun h => h | exact fun h => bL h | exact fun h => bL (bL h) | exact fun h => bL (bL (bL h)))) rfl rfl rfl rfl (fun _ => (hb3.cells).ptr) rfl ?_); refine GL.cons (Step.load1 tb rfl (Op1.of rfl (by first | exact fun _ => rfl | exact fun h => h | exact fun h => bL h | exact fun h => bL (bL h) | exact fun h => bL (bL (bL h)))) rfl rfl (fun _ => (hb3.cells).cell (i := 1) rfl) rfl ?_)
  try (first | refine gl tb ?_ | refine gg tb ?_ | refine ll tb ?_ | refine lg tb ?_); repeat ((first | refine G.condT rfl ?_ | refine G.condF rfl ?_); try (first | refine gl tb ?_ | refine gg tb ?_ | refine ll tb ?_ | refine lg tb ?_))
  refine GL.cons (Step.fieldAddr tb rfl (Op1.of rfl (by first | exact fun _ => rfl | exact fun h => h | exact fun h => bL h | exact fun h => bL (bL h) | exact fun h => bL (bL (bL h)))) rfl rfl rfl rfl (fun _ => (hb3.cells).ptr) rfl ?_); refine GL.cons (Step.load1 tb rfl (Op1.of rfl (by first | exact fun _ => rfl | exact fun h => h | exact fun h => bL h | exact fun h => bL (bL h) | exact fun h => bL (bL (bL h)))) rfl rfl (fun _ => (hb3.cells).cell (i := 1) rfl) rfl ?_)
  refine GL.cons (Step.callX rfl rfl (by repeat (first | exact OpL.nil | refine OpL.cons (Op1.of rfl (by first | exact fun _ => rfl | exact fun h => h | exact fun h => bL h | exact fun h => bL (bL h) | exact fun h => bL (bL (bL h)))) ?_)) c46 rfl (fun hc => refMetric_ok x.2 w3 hx.2) ?_)
  intro w4 hx4
  try (first | refine gl tb ?_ | refine gg tb ?_ | refine ll tb ?_ | refine lg tb ?_); repeat ((first | refine G.condT rfl ?_ | refine G.condF rfl ?_); try (first | refine gl tb ?_ | refine gg tb ?_ | refine ll tb ?_ | refine lg tb ?_))
  refine G.ret1 rfl rfl rfl rfl ?_
  exact ⟨rfl, ((hx1.trans hx2).trans hx3).trans hx4⟩
end Go.Proofs.YtmkckngecjpklaaDoor.Lab
end
section
open Go Go.Vg Go.RowKit Go.Proofs Go.Proofs.YtmkckngecjpklaaDoor
namespace Go.Proofs.YtmkckngecjpklaaDoor.Lab
set_option linter.unusedSimpArgs false

abbrev LO (w : World) (B : Nat) (v : Value) (ls : List Lab) : Prop := Owns w B v 42 2 (ls.map labC)
def stepN (s : List Lab × Bool) (x : Lab) : List Lab × Bool := if x.2 = [] then s else (putL s.1 x, s.2 || hasL s.1 x.1)
def foldN (ls : List Lab) : List Lab × Bool := ls.foldl stepN ([], false)
def newR (ls : List Lab) : Int × List Lab :=
  if ls.all fairB = true then (if (foldN ls).2 = true then (13, []) else if 64 < (foldN ls).1.length then (15, []) else (0, (foldN ls).1)) else (2, [])
theorem putL_len (l : List Lab) (x : Lab) : (putL l x).length = l.length + 1 := by
  have := congrArg List.length (List.takeWhile_append_dropWhile (p := fun y => Op.bytesLess y.1 x.1) (l := l))
  simp only [List.length_append] at this
  simp only [putL, List.length_append, List.length_cons]; omega
theorem foldN_snoc (ls : List Lab) (x : Lab) : foldN (ls ++ [x]) = stepN (foldN ls) x := by simp [foldN]
theorem stepN_len (s : List Lab × Bool) (x : Lab) : (stepN s x).1.length ≤ s.1.length + 1 := by
  unfold stepN; split
  · omega
  · simp only [putL_len]; omega
theorem foldN_len (ls : List Lab) : (foldN ls).1.length ≤ ls.length := by
  unfold foldN
  suffices ∀ (l : List Lab) s, (l.foldl stepN s).1.length ≤ s.1.length + l.length by simpa using this ls ([], false)
  intro l
  induction l with
  | nil => intro s; simp
  | cons a r ih => intro s; simp only [List.foldl_cons, List.length_cons]; have := ih (stepN s a); have := stepN_len s a; omega
theorem Labs.at {ls : List Lab} {k : Nat} (h : k < ls.length) : ∃ x, x ∈ ls ∧ (ls.map labC)[k]? = some (labC x) ∧ ls.take (k + 1) = ls.take k ++ [x] ∧ ls.drop k = x :: ls.drop (k + 1) ∧ ls[k]? = some x :=
  ⟨ls[k], List.getElem_mem h, by simp [h], by rw [List.take_succ_eq_append_getElem h], List.drop_eq_getElem_cons h, by simp [h]⟩
theorem refNew_ok (v : Value) (ls : List Lab) (w : World) (hv : Labs w v ls) (hn : ls.length ≤ 1000) (hz : ∀ x ∈ ls, LabSz x) :
    Ret Tryd.prog 23 ⟨[v]⟩ w fun r w' => ∃ s, r = .tuple ⟨[s, .int .i64 (newR ls).1]⟩ ∧ LO w' w.heap.size s (newR ls).2 ∧ Ext w w' := by
  have hbd := Labs.bound hv
  refine ret_of_G Tryd.func23 rfl Tryd.ntmps23 rfl ?_
  simp only [argEnv]
  try (first | refine gl tb ?_ | refine gg tb ?_ | refine ll tb ?_ | refine lg tb ?_); repeat ((first | refine G.condT rfl ?_ | refine G.condF rfl ?_); try (first | refine gl tb ?_ | refine gg tb ?_ | refine ll tb ?_ | refine lg tb ?_))
  refine (G.loop (fun k : Nat => [(0, none, v), (4, none, .int .i64 k)]) (fun k w' => Ext w w' ∧ k ≤ ls.length ∧ (ls.take k).all fairB = true) (fun k => ls.length - k) 0 (by repeat (first | exact Sub.nil _ | refine Sub.cons rfl ?_)) ⟨Ext.refl _, by omega, rfl⟩ ?_)
  rintro k w1 ⟨hx1, hk, hto⟩
  have hv1 := hv.to hx1
  try (first | refine gl tb ?_ | refine gg tb ?_ | refine ll tb ?_ | refine lg tb ?_); repeat ((first | refine G.condT rfl ?_ | refine G.condF rfl ?_); try (first | refine gl tb ?_ | refine gg tb ?_ | refine ll tb ?_ | refine lg tb ?_))
  refine GL.cons (Step.lenV tb rfl (Op1.of rfl (by first | exact fun _ => rfl | exact fun h => h | exact fun h => bL h | exact fun h => bL (bL h) | exact fun h => bL (bL (bL h)))) rfl (fun _ => ⟨_, hv1⟩) rfl ?_)
  simp only [List.length_map]
  try (first | refine gl tb ?_ | refine gg tb ?_ | refine ll tb ?_ | refine lg tb ?_); repeat ((first | refine G.condT rfl ?_ | refine G.condF rfl ?_); try (first | refine gl tb ?_ | refine gg tb ?_ | refine ll tb ?_ | refine lg tb ?_))
  first | refine G.condD rfl (fun hc => ?_) (fun hc => ?_) | refine G.condN rfl (fun hc => ?_) (fun hc => ?_) | refine G.cond rfl (fun hc => ?_) (fun hc => ?_)
  · have hlt : k < ls.length := by omega
    obtain ⟨x, hmem, hget, htk, -, -⟩ := Labs.at hlt
    try (first | refine gl tb ?_ | refine gg tb ?_ | refine ll tb ?_ | refine lg tb ?_); repeat ((first | refine G.condT rfl ?_ | refine G.condF rfl ?_); try (first | refine gl tb ?_ | refine gg tb ?_ | refine ll tb ?_ | refine lg tb ?_))
    refine GL.cons (Step.indexAddr tb k rfl (Op1.of rfl (by first | exact fun _ => rfl | exact fun h => h | exact fun h => bL h | exact fun h => bL (bL h) | exact fun h => bL (bL (bL h)))) (Op1.of rfl (by first | exact fun _ => rfl | exact fun h => h | exact fun h => bL h | exact fun h => bL (bL h) | exact fun h => bL (bL (bL h)))) rfl rfl (fun _ => ⟨_, hv1⟩) (fun _ => ⟨by omega, by simpa using hlt⟩) rfl ?_)
    refine GL.cons (Step.loadA tb rfl (Op1.of rfl (by first | exact fun _ => rfl | exact fun h => h | exact fun h => bL h | exact fun h => bL (bL h) | exact fun h => bL (bL (bL h)))) rfl rfl rfl (fun _ => hv1.elem hget) (fun _ => rfl) rfl ?_)
    refine GL.cons (Step.callX rfl rfl (by repeat (first | exact OpL.nil | refine OpL.cons (Op1.of rfl (by first | exact fun _ => rfl | exact fun h => h | exact fun h => bL h | exact fun h => bL (bL h) | exact fun h => bL (bL (bL h)))) ?_)) c28 rfl (fun hc => fair_ok x w1 (hz _ hmem)) ?_)
    intro w2 hx2
    try (first | refine gl tb ?_ | refine gg tb ?_ | refine ll tb ?_ | refine lg tb ?_); repeat ((first | refine G.condT rfl ?_ | refine G.condF rfl ?_); try (first | refine gl tb ?_ | refine gg tb ?_ | refine ll tb ?_ | refine lg tb ?_))
    first | refine G.condD rfl (fun hc => ?_) (fun hc => ?_) | refine G.condN rfl (fun hc => ?_) (fun hc => ?_) | refine G.cond rfl (fun hc => ?_) (fun hc => ?_)
    · try (first | refine gl tb ?_ | refine gg tb ?_ | refine ll tb ?_ | refine lg tb ?_); repeat ((first | refine G.condT rfl ?_ | refine G.condF rfl ?_); try (first | refine gl tb ?_ | refine gg tb ?_ | refine ll tb ?_ | refine lg tb ?_))
      refine G.ret2 rfl rfl rfl rfl rfl ?_
      have : newR ls = (2, []) := by
        unfold newR; rw [if_neg]
        intro h
        have := List.all_eq_true.1 h x hmem
        rw [this] at hc; cases hc
      rw [this]
      exact ⟨_, rfl, Owns.nil _ _ _ _, hx1.trans hx2⟩
    · try (first | refine gl tb ?_ | refine gg tb ?_ | refine ll tb ?_ | refine lg tb ?_); repeat ((first | refine G.condT rfl ?_ | refine G.condF rfl ?_); try (first | refine gl tb ?_ | refine gg tb ?_ | refine ll tb ?_ | refine lg tb ?_))
      refine GL.cons (Step.arith rfl (Op1.of rfl (by first | exact fun _ => rfl | exact fun h => h | exact fun h => bL h | exact fun h => bL (bL h) | exact fun h => bL (bL (bL h)))) (Op1.of rfl (by first | exact fun _ => rfl | exact fun h => h | exact fun h => bL h | exact fun h => bL (bL h) | exact fun h => bL (bL (bL h)))) (wrap_i64 (by omega) (by omega)) rfl ?_)
      try (first | refine gl tb ?_ | refine gg tb ?_ | refine ll tb ?_ | refine lg tb ?_); repeat ((first | refine G.condT rfl ?_ | refine G.condF rfl ?_); try (first | refine gl tb ?_ | refine gg tb ?_ | refine ll tb ?_ | refine lg tb ?_))
      refine G.lp (k + 1) (by repeat (first | exact Sub.nil _ | refine Sub.cons rfl ?_)) ⟨hx1.trans hx2, by omega, ?_⟩ (by omega)
      rw [htk, List.all_append, hto]
      simpa using hc
  · have hke : k = ls.length := by omega
    subst hke
    rw [List.take_length] at hto
    try (first | refine gl tb ?_ | refine gg tb ?_ | refine ll tb ?_ | refine lg tb ?_); repeat ((first | refine G.condT rfl ?_ | refine G.condF rfl ?_); try (first | refine gl tb ?_ | refine gg tb ?_ | refine ll tb ?_ | refine lg tb ?_))
    refine (G.loop (fun x : Nat × Value => [(0, none, v), (5, none, x.2), (6, none, .bool (foldN (ls.take x.1)).2), (7, none, .int .i64 x.1)]) (fun x w' => Ext w w' ∧ x.1 ≤ ls.length ∧ LO w' w.heap.size x.2 (foldN (ls.take x.1)).1) (fun x => ls.length - x.1) (0, .slice none 0 0) (by repeat (first | exact Sub.nil _ | refine Sub.cons rfl ?_)) ⟨hx1, by simp, Owns.nil _ _ _ _⟩ ?_)
    rintro ⟨k, s⟩ w2 ⟨hx2, hk, ho⟩
    simp only at hk ho ⊢
    have hv2 := hv.to hx2
    try (first | refine gl tb ?_ | refine gg tb ?_ | refine ll tb ?_ | refine lg tb ?_); repeat ((first | refine G.condT rfl ?_ | refine G.condF rfl ?_); try (first | refine gl tb ?_ | refine gg tb ?_ | refine ll tb ?_ | refine lg tb ?_))
    refine GL.cons (Step.lenV tb rfl (Op1.of rfl (by first | exact fun _ => rfl | exact fun h => h | exact fun h => bL h | exact fun h => bL (bL h) | exact fun h => bL (bL (bL h)))) rfl (fun _ => ⟨_, hv2⟩) rfl ?_)
    simp only [List.length_map]
    try (first | refine gl tb ?_ | refine gg tb ?_ | refine ll tb ?_ | refine lg tb ?_); repeat ((first | refine G.condT rfl ?_ | refine G.condF rfl ?_); try (first | refine gl tb ?_ | refine gg tb ?_ | refine ll tb ?_ | refine lg tb ?_))
    first | refine G.condD rfl (fun hc => ?_) (fun hc => ?_) | refine G.condN rfl (fun hc => ?_) (fun hc => ?_) | refine G.cond rfl (fun hc => ?_) (fun hc => ?_)
    · have hlt : k < ls.length := by omega
      obtain ⟨x, hmem, hget, htk, -, -⟩ := Labs.at hlt
      have hsn : foldN (ls.take (k + 1)) = stepN (foldN (ls.take k)) x := by rw [htk, foldN_snoc]
      try (first | refine gl tb ?_ | refine gg tb ?_ | refine ll tb ?_ | refine lg tb ?_); repeat ((first | refine G.condT rfl ?_ | refine G.condF rfl ?_); try (first | refine gl tb ?_ | refine gg tb ?_ | refine ll tb ?_ | refine lg tb ?_))
      refine GL.cons (Step.indexAddr tb k rfl (Op1.of rfl (by first | exact fun _ => rfl | exact fun h => h | exact fun h => bL h | exact fun h => bL (bL h) | exact fun h => bL (bL (bL h)))) (Op1.of rfl (by first | exact fun _ => rfl | exact fun h => h | exact fun h => bL h | exact fun h => bL (bL h) | exact fun h => bL (bL (bL h)))) rfl rfl (fun _ => ⟨_, hv2⟩) (fun _ => ⟨by omega, by simpa using hlt⟩) rfl ?_)
      refine GL.cons (Step.fieldAddr tb rfl (Op1.of rfl (by first | exact fun _ => rfl | exact fun h => h | exact fun h => bL h | exact fun h => bL (bL h) | exact fun h => bL (bL (bL h)))) rfl rfl rfl rfl (fun _ => (hv2.elem hget).ptr) rfl ?_); refine GL.cons (Step.load1 tb rfl (Op1.of rfl (by first | exact fun _ => rfl | exact fun h => h | exact fun h => bL h | exact fun h => bL (bL h) | exact fun h => bL (bL (bL h)))) rfl rfl (fun _ => (hv2.elem hget).cell (i := 1) rfl) rfl ?_)
      try (first | refine gl tb ?_ | refine gg tb ?_ | refine ll tb ?_ | refine lg tb ?_); repeat ((first | refine G.condT rfl ?_ | refine G.condF rfl ?_); try (first | refine gl tb ?_ | refine gg tb ?_ | refine ll tb ?_ | refine lg tb ?_))
      first | refine G.condD rfl (fun hc => ?_) (fun hc => ?_) | refine G.condN rfl (fun hc => ?_) (fun hc => ?_) | refine G.cond rfl (fun hc => ?_) (fun hc => ?_)
      · have hst : stepN (foldN (ls.take k)) x = foldN (ls.take k) := by unfold stepN; rw [if_pos (by simpa using hc)]
        rw [hst] at hsn
        try (first | refine gl tb ?_ | refine gg tb ?_ | refine ll tb ?_ | refine lg tb ?_); repeat ((first | refine G.condT rfl ?_ | refine G.condF rfl ?_); try (first | refine gl tb ?_ | refine gg tb ?_ | refine ll tb ?_ | refine lg tb ?_))
        refine GL.cons (Step.arith rfl (Op1.of rfl (by first | exact fun _ => rfl | exact fun h => h | exact fun h => bL h | exact fun h => bL (bL h) | exact fun h => bL (bL (bL h)))) (Op1.of rfl (by first | exact fun _ => rfl | exact fun h => h | exact fun h => bL h | exact fun h => bL (bL h) | exact fun h => bL (bL (bL h)))) (wrap_i64 (by omega) (by omega)) rfl ?_)
        try (first | refine gl tb ?_ | refine gg tb ?_ | refine ll tb ?_ | refine lg tb ?_); repeat ((first | refine G.condT rfl ?_ | refine G.condF rfl ?_); try (first | refine gl tb ?_ | refine gg tb ?_ | refine ll tb ?_ | refine lg tb ?_))
        exact G.lp (x := (k, s)) (k + 1, s) (by simp only [hsn]; exact (by repeat (first | exact Sub.nil _ | refine Sub.cons rfl ?_))) ⟨hx2, by simp only; omega, by simp only [hsn]; exact ho⟩ (by simp only; omega)
      · have hst : stepN (foldN (ls.take k)) x = (putL (foldN (ls.take k)).1 x, (foldN (ls.take k)).2 || hasL (foldN (ls.take k)).1 x.1) := by unfold stepN; rw [if_neg (by simpa using hc)]
        rw [hst] at hsn
        have hfl := foldN_len (ls.take k)
        rw [List.length_take] at hfl
        try (first | refine gl tb ?_ | refine gg tb ?_ | refine ll tb ?_ | refine lg tb ?_); repeat ((first | refine G.condT rfl ?_ | refine G.condF rfl ?_); try (first | refine gl tb ?_ | refine gg tb ?_ | refine ll tb ?_ | refine lg tb ?_))
        refine GL.cons (Step.indexAddr tb k rfl (Op1.of rfl (by first | exact fun _ => rfl | exact fun h => h | exact fun h => bL h | exact fun h => bL (bL h) | exact fun h => bL (bL (bL h)))) (Op1.of rfl (by first | exact fun _ => rfl | exact fun h => h | exact fun h => bL h | exact fun h => bL (bL h) | exact fun h => bL (bL (bL h)))) rfl rfl (fun _ => ⟨_, hv2⟩) (fun _ => ⟨by omega, by simpa using hlt⟩) rfl ?_)
        refine GL.cons (Step.fieldAddr tb rfl (Op1.of rfl (by first | exact fun _ => rfl | exact fun h => h | exact fun h => bL h | exact fun h => bL (bL h) | exact fun h => bL (bL (bL h)))) rfl rfl rfl rfl (fun _ => (hv2.elem hget).ptr) rfl ?_); refine GL.cons (Step.load1 tb rfl (Op1.of rfl (by first | exact fun _ => rfl | exact fun h => h | exact fun h => bL h | exact fun h => bL (bL h) | exact fun h => bL (bL (bL h)))) rfl rfl (fun _ => (hv2.elem hget).cell (i := 0) rfl) rfl ?_)
        refine GL.cons (Step.callX rfl rfl (by repeat (first | exact OpL.nil | refine OpL.cons (Op1.of rfl (by first | exact fun _ => rfl | exact fun h => h | exact fun h => bL h | exact fun h => bL (bL h) | exact fun h => bL (bL (bL h)))) ?_)) c29 rfl (fun hc => (has_ok s _ x.1 w2 ho.sli).mono fun _ _ h => ⟨h.1, h.2 ▸ Ext.refl _⟩) ?_)
        intro w3 hx3
        have hv3 := hv2.to hx3
        try (first | refine gl tb ?_ | refine gg tb ?_ | refine ll tb ?_ | refine lg tb ?_); repeat ((first | refine G.condT rfl ?_ | refine G.condF rfl ?_); try (first | refine gl tb ?_ | refine gg tb ?_ | refine ll tb ?_ | refine lg tb ?_))
        refine GL.cons (Step.indexAddr tb k rfl (Op1.of rfl (by first | exact fun _ => rfl | exact fun h => h | exact fun h => bL h | exact fun h => bL (bL h) | exact fun h => bL (bL (bL h)))) (Op1.of rfl (by first | exact fun _ => rfl | exact fun h => h | exact fun h => bL h | exact fun h => bL (bL h) | exact fun h => bL (bL (bL h)))) rfl rfl (fun _ => ⟨_, hv3⟩) (fun _ => ⟨by omega, by simpa using hlt⟩) rfl ?_)
        refine GL.cons (Step.loadA tb rfl (Op1.of rfl (by first | exact fun _ => rfl | exact fun h => h | exact fun h => bL h | exact fun h => bL (bL h) | exact fun h => bL (bL (bL h)))) rfl rfl rfl (fun _ => hv3.elem hget) (fun _ => rfl) rfl ?_)
        refine GL.cons (Step.callF rfl rfl rfl c30 rfl (put_ok s _ x w3 (ho.to hx3).sli (by omega)) ?_)
        rintro r w4 ⟨ho4, hx4⟩
        try (first | refine gl tb ?_ | refine gg tb ?_ | refine ll tb ?_ | refine lg tb ?_); repeat ((first | refine G.condT rfl ?_ | refine G.condF rfl ?_); try (first | refine gl tb ?_ | refine gg tb ?_ | refine ll tb ?_ | refine lg tb ?_))
        refine GL.cons (Step.arith rfl (Op1.of rfl (by first | exact fun _ => rfl | exact fun h => h | exact fun h => bL h | exact fun h => bL (bL h) | exact fun h => bL (bL (bL h)))) (Op1.of rfl (by first | exact fun _ => rfl | exact fun h => h | exact fun h => bL h | exact fun h => bL (bL h) | exact fun h => bL (bL (bL h)))) (wrap_i64 (by omega) (by omega)) rfl ?_)
        try (first | refine gl tb ?_ | refine gg tb ?_ | refine ll tb ?_ | refine lg tb ?_); repeat ((first | refine G.condT rfl ?_ | refine G.condF rfl ?_); try (first | refine gl tb ?_ | refine gg tb ?_ | refine ll tb ?_ | refine lg tb ?_))
        have hx14 := (hx2.trans hx3)
        exact G.lp (x := (k, s)) (k + 1, r) (by simp only [hsn]; exact (by repeat (first | exact Sub.nil _ | refine Sub.cons rfl ?_))) ⟨hx14.trans hx4, by simp only; omega, by simp only [hsn]; exact ho4.mono hx14.size⟩ (by simp only; omega)
    · have hke : k = ls.length := by omega
      subst hke
      rw [List.take_length] at ho
      try (first | refine gl tb ?_ | refine gg tb ?_ | refine ll tb ?_ | refine lg tb ?_); repeat ((first | refine G.condT rfl ?_ | refine G.condF rfl ?_); try (first | refine gl tb ?_ | refine gg tb ?_ | refine ll tb ?_ | refine lg tb ?_))
      rw [List.take_length]
      first | refine G.condD rfl (fun hc => ?_) (fun hc => ?_) | refine G.condN rfl (fun hc => ?_) (fun hc => ?_) | refine G.cond rfl (fun hc => ?_) (fun hc => ?_)
      · try (first | refine gl tb ?_ | refine gg tb ?_ | refine ll tb ?_ | refine lg tb ?_); repeat ((first | refine G.condT rfl ?_ | refine G.condF rfl ?_); try (first | refine gl tb ?_ | refine gg tb ?_ | refine ll tb ?_ | refine lg tb ?_))
        refine G.ret2 rfl rfl rfl rfl rfl ?_
        have : newR ls = (13, []) := by unfold newR; rw [if_pos hto, if_pos hc]
        rw [this]
        exact ⟨_, rfl, Owns.nil _ _ _ _, hx2⟩
      · have hc2 := hc
        try (first | refine gl tb ?_ | refine gg tb ?_ | refine ll tb ?_ | refine lg tb ?_); repeat ((first | refine G.condT rfl ?_ | refine G.condF rfl ?_); try (first | refine gl tb ?_ | refine gg tb ?_ | refine ll tb ?_ | refine lg tb ?_))
        refine GL.cons (Step.lenV tb rfl (Op1.of rfl (by first | exact fun _ => rfl | exact fun h => h | exact fun h => bL h | exact fun h => bL (bL h) | exact fun h => bL (bL (bL h)))) rfl (fun _ => ⟨_, ho.sli⟩) rfl ?_)
        simp only [List.length_map]
        try (first | refine gl tb ?_ | refine gg tb ?_ | refine ll tb ?_ | refine lg tb ?_); repeat ((first | refine G.condT rfl ?_ | refine G.condF rfl ?_); try (first | refine gl tb ?_ | refine gg tb ?_ | refine ll tb ?_ | refine lg tb ?_))
        first | refine G.condD rfl (fun hc => ?_) (fun hc => ?_) | refine G.condN rfl (fun hc => ?_) (fun hc => ?_) | refine G.cond rfl (fun hc => ?_) (fun hc => ?_)
        · try (first | refine gl tb ?_ | refine gg tb ?_ | refine ll tb ?_ | refine lg tb ?_); repeat ((first | refine G.condT rfl ?_ | refine G.condF rfl ?_); try (first | refine gl tb ?_ | refine gg tb ?_ | refine ll tb ?_ | refine lg tb ?_))
          refine G.ret2 rfl rfl rfl rfl rfl ?_
          have : newR ls = (15, []) := by unfold newR; rw [if_pos hto, if_neg (by rw [hc2]; simp), if_pos (by omega)]
          rw [this]
          exact ⟨_, rfl, Owns.nil _ _ _ _, hx2⟩
        · try (first | refine gl tb ?_ | refine gg tb ?_ | refine ll tb ?_ | refine lg tb ?_); repeat ((first | refine G.condT rfl ?_ | refine G.condF rfl ?_); try (first | refine gl tb ?_ | refine gg tb ?_ | refine ll tb ?_ | refine lg tb ?_))
          refine G.ret2 rfl rfl rfl rfl rfl ?_
          have : newR ls = (0, (foldN ls).1) := by unfold newR; rw [if_pos hto, if_neg (by rw [hc2]; simp), if_neg (by omega)]
          rw [this]
          exact ⟨_, rfl, ho, hx2⟩
end Go.Proofs.YtmkckngecjpklaaDoor.Lab
end
section
open Go Go.Vg Go.RowKit Go.Proofs Go.Proofs.YtmkckngecjpklaaDoor
namespace Go.Proofs.YtmkckngecjpklaaDoor.Lab
set_option linter.unusedSimpArgs false

def setStep (out : List Lab) (x : Lab) : List Lab := if (newR (out ++ [x])).1 = 0 then (newR (out ++ [x])).2 else out
def setN (ls : List Lab) : List Lab := (ls.take 80).foldl setStep []
theorem newR_len {ls : List Lab} : (newR ls).2.length ≤ 64 := by
  unfold newR
  split
  · split
    · simp
    · split
      · simp
      · simp only; omega
  · simp
theorem setTo_snoc (ls : List Lab) (x : Lab) : (ls ++ [x]).foldl setStep [] = setStep (ls.foldl setStep []) x := by simp
theorem setTo_len (ls : List Lab) : (ls.foldl setStep []).length ≤ 64 := by
  suffices ∀ (l : List Lab) (s : List Lab), s.length ≤ 64 → (l.foldl setStep s).length ≤ 64 from this ls [] (by simp)
  intro l
  induction l with
  | nil => intro s h; exact h
  | cons a r ih =>
    intro s h
    refine ih _ ?_
    unfold setStep
    split
    · exact newR_len
    · exact h
theorem putL_mem {l : List Lab} {x y : Lab} (h : y ∈ putL l x) : y ∈ l ∨ y = x := by
  simp only [putL, List.mem_append, List.mem_cons] at h
  rcases h with h | h | h
  · exact .inl ((List.takeWhile_sublist _).mem h)
  · exact .inr h
  · exact .inl ((List.dropWhile_sublist _).mem h)
theorem foldN_mem {ls : List Lab} {y : Lab} (h : y ∈ (foldN ls).1) : y ∈ ls := by
  suffices ∀ (l : List Lab) (s : List Lab × Bool), y ∈ (l.foldl stepN s).1 → y ∈ s.1 ∨ y ∈ l by
    rcases this ls ([], false) h with h | h
    · simp at h
    · exact h
  intro l
  induction l with
  | nil => intro s h; exact .inl h
  | cons a r ih =>
    intro s h
    rcases ih _ h with h | h
    · unfold stepN at h
      split at h
      · exact .inl h
      · rcases putL_mem h with h | h
        · exact .inl h
        · exact .inr (by simp [h])
    · exact .inr (by simp [h])
theorem newR_mem {ls : List Lab} {y : Lab} (h : y ∈ (newR ls).2) : y ∈ ls := by
  unfold newR at h
  split at h
  · split at h
    · simp at h
    · split at h
      · simp at h
      · exact foldN_mem h
  · simp at h
theorem setTo_mem {ls : List Lab} {y : Lab} (h : y ∈ ls.foldl setStep []) : y ∈ ls := by
  suffices ∀ (l : List Lab) (s : List Lab), y ∈ l.foldl setStep s → y ∈ s ∨ y ∈ l by
    rcases this ls [] h with h | h
    · simp at h
    · exact h
  intro l
  induction l with
  | nil => intro s h; exact .inl h
  | cons a r ih =>
    intro s h
    rcases ih _ h with h | h
    · unfold setStep at h
      split at h
      · rcases List.mem_append.1 (newR_mem h) with h | h
        · exact .inl h
        · exact .inr (by simp at h; simp [h])
      · exact .inl h
    · exact .inr (by simp [h])

end Go.Proofs.YtmkckngecjpklaaDoor.Lab
end
section
open Go Go.Vg Go.RowKit Go.Proofs Go.Proofs.YtmkckngecjpklaaDoor
namespace Go.Proofs.YtmkckngecjpklaaDoor.Lab
set_option linter.unusedSimpArgs false

abbrev Tabs (w : World) : Prop := Lib.Utf8Tabs (Tryd.laysValid_ren.g 3) (Tryd.laysValid_ren.g 4) w
theorem validS_ok (s : List UInt8) (w : World) (hs : Sz s) (hT : Tabs w) :
    Ret Tryd.prog 56 ⟨[S s]⟩ w fun v w' => v = .bool (Lib.validD s) ∧ Ext w w' :=
  Calls.mono (Any.utf8_ValidString Tryd.laysValid ⟨⟨s⟩⟩ w hs hT) fun _ _ ⟨he, hb⟩ => ⟨_, he, rfl, hb⟩
theorem Tabs.to {w w' : World} (h : Tabs w) (hx : Ext w w') : Tabs w' := Utf8Tabs_below h hx
def okB (x : Lab) : Bool := if (!namedB false x.1 || decide ((1024 : Int) < x.2.length) || !Lib.validD x.2) = true then false else (!decide (x.1 = nameS) || decide (x.2 = []) || namedB true x.2)
end Go.Proofs.YtmkckngecjpklaaDoor.Lab
end
section
open Go Go.Vg Go.RowKit Go.Proofs Go.Proofs.YtmkckngecjpklaaDoor
namespace Go.Proofs.YtmkckngecjpklaaDoor
set_option linter.unusedSimpArgs false
namespace Lab
/-- labels that came in -/
theorem open_labs {H : Type} {enc : TypeId × Value → H} {w : World} {sp : Nat → Bool} {hd : Bool} {b : Nat} {v : Value} {d : DataW H} {p : List MemPlace}
    (hval : OkW Tryd.prog w b 24 v) (h : DataW.Trod enc Tryd.prog w 0 sp hd 24 v d p) : ∃ ls : List Lab, Labs w v ls ∧ ∀ x ∈ ls, LabSz x := by
  refine open_rows (t := 24) (e := 42) labC LabSz (tb.ok _ _ rfl) (by kernel_rfl) (fun n cs x hx => ?_) hval h
  obtain ⟨u0, u1, n, y0, y1, rfl, k0, k1⟩ := open_st2 (tb.ok _ _ rfl) (by kernel_rfl) rfl rfl (by kernel_rfl) (by kernel_rfl) hx
  obtain ⟨a, ha, hla⟩ := open_str (tb.ok _ _ rfl) k0
  obtain ⟨c, hc, hlc⟩ := open_str (tb.ok _ _ rfl) k1
  cases ha; cases hc
  exact ⟨(a, c), rfl, hla, hlc⟩
def strC (s : List UInt8) : List Value := [S s]
end Lab
end Go.Proofs.YtmkckngecjpklaaDoor
end
section
open Go Go.Vg Go.RowKit Go.Proofs Go.Proofs.YtmkckngecjpklaaDoor
namespace Go.Proofs.YtmkckngecjpklaaDoor.Lab
set_option linter.unusedSimpArgs false

abbrev Strs (w : World) (v : Value) (ns : List (List UInt8)) : Prop := Sli w v 1 (ns.map strC)
theorem Strs.at {ns : List (List UInt8)} {k : Nat} (h : k < ns.length) : ∃ s, (ns.map strC)[k]? = some (strC s) ∧ s ∈ ns ∧ ns.drop k = s :: ns.drop (k + 1) ∧ ns.take (k + 1) = ns.take k ++ [s] :=
  ⟨ns[k], by simp [h], List.getElem_mem h, List.drop_eq_getElem_cons h, List.take_succ_eq_append_getElem h⟩

theorem labC_one1 (x : Lab) : ∀ v ∈ labC x, v.oneCell' = true := by simp [Value.oneCell', S, labC]
def pickL (ls : List Lab) (ns : List (List UInt8)) (b : Bool) : List Lab := ls.filter fun x => decide (x.1 ∈ ns) == b
theorem pickL_snoc (ls : List Lab) (ns : List (List UInt8)) (b : Bool) (x : Lab) : pickL (ls ++ [x]) ns b = if decide (x.1 ∈ ns) = b then pickL ls ns b ++ [x] else pickL ls ns b := by
  unfold pickL
  rw [List.filter_append, List.filter_cons, List.filter_nil]
  by_cases h : decide (x.1 ∈ ns) = b
  · rw [if_pos h, if_pos (by simpa using h)]
  · rw [if_neg h, if_neg (by simpa using h)]; simp
theorem pickL_len (ls : List Lab) (ns : List (List UInt8)) (b : Bool) : (pickL ls ns b).length ≤ ls.length := List.length_filter_le ..

end Go.Proofs.YtmkckngecjpklaaDoor.Lab
end
section
open Go Go.Vg Go.RowKit Go.Proofs Go.Proofs.YtmkckngecjpklaaDoor
namespace Go.Proofs.YtmkckngecjpklaaDoor.Lab
set_option linter.unusedSimpArgs false

theorem layA {α : Type} (xs zs : List α) (x : α) (i : Nat) (hi : i < xs.length) (hz : zs.length = xs.length + 1 - i) :
    lay (lay (xs.take i ++ zs) i ([x].take 1)) (i + 1) ((xs.drop i).take (xs.length - i)) = xs.take i ++ x :: xs.drop i := by
  have h1 : (xs.take i).length = i := by rw [List.length_take]; omega
  have h2 : ((xs.drop i).take (xs.length - i)) = xs.drop i := List.take_of_length_le (by simp)
  have e1 : lay (xs.take i ++ zs) i ([x].take 1) = (xs.take i ++ [x]) ++ zs.drop 1 := by
    simp only [lay, List.take_left' h1, List.take_succ_cons, List.take_zero, List.length_cons, List.length_nil]
    rw [List.drop_append, List.drop_of_length_le (l := xs.take i) (by omega), List.nil_append, h1, show i + (0 + 1) - i = 1 by omega]
  have h3 : (xs.take i ++ [x]).length = i + 1 := by rw [List.length_append, h1]; rfl
  rw [e1, h2]
  simp only [lay, List.take_left' h3]
  rw [List.drop_of_length_le (l := xs.take i ++ [x] ++ zs.drop 1) (by simp; omega), List.append_nil, List.append_assoc]
  rfl
theorem layB {α : Type} (xs : List α) (x y : α) (i : Nat) (hi : i < xs.length) :
    lay (lay (xs ++ [y]) (i + 1) (((xs ++ [y]).drop i).take (xs.length - i))) i ([x].take 1) = xs.take i ++ x :: xs.drop i := by
  have e1 : ((xs ++ [y]).drop i).take (xs.length - i) = xs.drop i := by
    rw [List.drop_append_of_le_length (by omega), List.take_left' (by rw [List.length_drop])]
  have e2 : lay (xs ++ [y]) (i + 1) (xs.drop i) = xs.take (i + 1) ++ xs.drop i := by
    simp only [lay]
    rw [List.take_append_of_le_length (by omega), List.drop_of_length_le (l := xs ++ [y]) (by simp; omega), List.append_nil]
  rw [e1, e2]
  have h1 : (xs.take i).length = i := by rw [List.length_take]; omega
  have e3 : xs.take (i + 1) ++ xs.drop i = xs.take i ++ (xs[i] :: xs.drop i) := by
    rw [List.take_succ_eq_append_getElem hi, List.append_assoc]; rfl
  rw [e3]
  simp only [lay, List.take_left' h1, List.take_succ_cons, List.take_zero, List.length_cons, List.length_nil]
  rw [List.drop_append, List.drop_of_length_le (l := xs.take i) (by omega), List.nil_append, h1, show i + (0 + 1) - i = 1 by omega, List.append_assoc]
  rfl

theorem insert_ok (s u : Value) (xs : List (List Value)) (x : List Value) (i B B' : Nat) (w : World) (hs : Owns w B s 42 2 xs) (hu : Owns w B' u 42 2 [x]) (hne : ∀ b, some b = u.ownBlock → some b ≠ s.ownBlock)
    (hi : i ≤ xs.length) (hn : xs.length ≤ 1000) (hB : B ≤ w.heap.size) (h1 : ∀ y ∈ xs, ∀ c ∈ y, c.oneCell' = true) (h1x : ∀ y ∈ [x], ∀ c ∈ y, c.oneCell' = true) :
    Ret Tryd.prog 76 ⟨[s, .int .i64 i, u]⟩ w fun r w' => Owns w' B r 42 2 (xs.take i ++ x :: xs.drop i) ∧ Grew B s w w' := by
  refine ret_of_G Tryd.func76 rfl Tryd.ntmps76 rfl ?_
  simp only [argEnv]
  try (first | refine gl tb ?_ | refine gg tb ?_ | refine ll tb ?_ | refine lg tb ?_); repeat ((first | refine G.condT rfl ?_ | refine G.condF rfl ?_ | refine sFa tb ?_ | refine sLd tb ?_ | refine sLa tb ?_ | refine sLen tb ?_ | refine sFd tb ?_ | refine sBd tb ?_ | refine sBa tb ?_); try (first | refine gl tb ?_ | refine gg tb ?_ | refine ll tb ?_ | refine lg tb ?_))
  refine GL.cons (Step.sliceVl tb i rfl (Op1.of rfl (by first | exact fun _ => rfl | exact fun h => h | exact fun h => bL h | exact fun h => bL (bL h) | exact fun h => bL (bL (bL h)))) (Op1.of rfl (by first | exact fun _ => rfl | exact fun h => h | exact fun h => bL h | exact fun h => bL (bL h) | exact fun h => bL (bL (bL h)))) rfl rfl (fun _ => ⟨_, hs.sli⟩) (fun _ => ⟨rfl, hi⟩) rfl ?_)
  try (first | refine gl tb ?_ | refine gg tb ?_ | refine ll tb ?_ | refine lg tb ?_); repeat ((first | refine G.condT rfl ?_ | refine G.condF rfl ?_ | refine sFa tb ?_ | refine sLd tb ?_ | refine sLa tb ?_ | refine sLen tb ?_ | refine sFd tb ?_ | refine sBd tb ?_ | refine sBa tb ?_); try (first | refine gl tb ?_ | refine gg tb ?_ | refine ll tb ?_ | refine lg tb ?_))
  rw [show ((([x] : List (List Value)).length : Nat) : Int) = 1 from rfl]
  try (first | refine gl tb ?_ | refine gg tb ?_ | refine ll tb ?_ | refine lg tb ?_); repeat ((first | refine G.condT rfl ?_ | refine G.condF rfl ?_ | refine sFa tb ?_ | refine sLd tb ?_ | refine sLa tb ?_ | refine sLen tb ?_ | refine sFd tb ?_ | refine sBd tb ?_ | refine sBa tb ?_); try (first | refine gl tb ?_ | refine gg tb ?_ | refine ll tb ?_ | refine lg tb ?_))
  first | refine G.condD rfl (fun hc => ?_) (fun hc => ?_) | refine G.condN rfl (fun hc => ?_) (fun hc => ?_) | refine G.cond rfl (fun hc => ?_) (fun hc => ?_)
  · have hin : i = xs.length := by omega
    try (first | refine gl tb ?_ | refine gg tb ?_ | refine ll tb ?_ | refine lg tb ?_); repeat ((first | refine G.condT rfl ?_ | refine G.condF rfl ?_ | refine sFa tb ?_ | refine sLd tb ?_ | refine sLa tb ?_ | refine sLen tb ?_ | refine sFd tb ?_ | refine sBd tb ?_ | refine sBa tb ?_); try (first | refine gl tb ?_ | refine gg tb ?_ | refine ll tb ?_ | refine lg tb ?_))
    refine sApp tb hs hu.sli ?_ (h1 := h1x)
    intro v1 w1 ho1 hg1
    try (first | refine gl tb ?_ | refine gg tb ?_ | refine ll tb ?_ | refine lg tb ?_); repeat ((first | refine G.condT rfl ?_ | refine G.condF rfl ?_ | refine sFa tb ?_ | refine sLd tb ?_ | refine sLa tb ?_ | refine sLen tb ?_ | refine sFd tb ?_ | refine sBd tb ?_ | refine sBa tb ?_); try (first | refine gl tb ?_ | refine gg tb ?_ | refine ll tb ?_ | refine lg tb ?_))
    refine G.ret1 rfl rfl rfl rfl ?_
    refine ⟨?_, hg1⟩
    rw [hin, List.take_length, List.drop_length]; exact ho1
  · have hlt : i < xs.length := by omega
    obtain ⟨gb, cap, cur, rfl, hBg, hgb, hcap, hcm, -, -⟩ := hs.shape (by omega)
    unfold maxLen at hcm
    try (first | refine gl tb ?_ | refine gg tb ?_ | refine ll tb ?_ | refine lg tb ?_); repeat ((first | refine G.condT rfl ?_ | refine G.condF rfl ?_ | refine sFa tb ?_ | refine sLd tb ?_ | refine sLa tb ?_ | refine sLen tb ?_ | refine sFd tb ?_ | refine sBd tb ?_ | refine sBa tb ?_); try (first | refine gl tb ?_ | refine gg tb ?_ | refine ll tb ?_ | refine lg tb ?_))
    refine sAd tb ?_
    try (first | refine gl tb ?_ | refine gg tb ?_ | refine ll tb ?_ | refine lg tb ?_); repeat ((first | refine G.condT rfl ?_ | refine G.condF rfl ?_ | refine sFa tb ?_ | refine sLd tb ?_ | refine sLa tb ?_ | refine sLen tb ?_ | refine sFd tb ?_ | refine sBd tb ?_ | refine sBa tb ?_); try (first | refine gl tb ?_ | refine gg tb ?_ | refine ll tb ?_ | refine lg tb ?_))
    refine GL.cons (Step.capV tb rfl (Op1.of rfl (by first | exact fun _ => rfl | exact fun h => h | exact fun h => bL h | exact fun h => bL (bL h) | exact fun h => bL (bL (bL h)))) rfl rfl ?_)
    try (first | refine gl tb ?_ | refine gg tb ?_ | refine ll tb ?_ | refine lg tb ?_); repeat ((first | refine G.condT rfl ?_ | refine G.condF rfl ?_ | refine sFa tb ?_ | refine sLd tb ?_ | refine sLa tb ?_ | refine sLen tb ?_ | refine sFd tb ?_ | refine sBd tb ?_ | refine sBa tb ?_); try (first | refine gl tb ?_ | refine gg tb ?_ | refine ll tb ?_ | refine lg tb ?_))
    first | refine G.condD rfl (fun hc => ?_) (fun hc => ?_) | refine G.condN rfl (fun hc => ?_) (fun hc => ?_) | refine G.cond rfl (fun hc => ?_) (fun hc => ?_)
    · have hroom : cap < xs.length + 1 := by omega
      try (first | refine gl tb ?_ | refine gg tb ?_ | refine ll tb ?_ | refine lg tb ?_); repeat ((first | refine G.condT rfl ?_ | refine G.condF rfl ?_ | refine sFa tb ?_ | refine sLd tb ?_ | refine sLa tb ?_ | refine sLen tb ?_ | refine sFd tb ?_ | refine sBd tb ?_ | refine sBa tb ?_); try (first | refine gl tb ?_ | refine gg tb ?_ | refine ll tb ?_ | refine lg tb ?_))
      refine GL.cons (Step.sliceVh tb i rfl (Op1.of rfl (by first | exact fun _ => rfl | exact fun h => h | exact fun h => bL h | exact fun h => bL (bL h) | exact fun h => bL (bL (bL h)))) (Op1.of rfl (by first | exact fun _ => rfl | exact fun h => h | exact fun h => bL h | exact fun h => bL (bL h) | exact fun h => bL (bL (bL h)))) rfl rfl (fun _ => ⟨_, hs.sli⟩) (fun _ => ⟨rfl, hi⟩) rfl ?_)
      try (first | refine gl tb ?_ | refine gg tb ?_ | refine ll tb ?_ | refine lg tb ?_); repeat ((first | refine G.condT rfl ?_ | refine G.condF rfl ?_ | refine sFa tb ?_ | refine sLd tb ?_ | refine sLa tb ?_ | refine sLen tb ?_ | refine sFd tb ?_ | refine sBd tb ?_ | refine sBa tb ?_); try (first | refine gl tb ?_ | refine gg tb ?_ | refine ll tb ?_ | refine lg tb ?_))
      refine sAd tb ?_
      try (first | refine gl tb ?_ | refine gg tb ?_ | refine ll tb ?_ | refine lg tb ?_); repeat ((first | refine G.condT rfl ?_ | refine G.condF rfl ?_ | refine sFa tb ?_ | refine sLd tb ?_ | refine sLa tb ?_ | refine sLen tb ?_ | refine sFd tb ?_ | refine sBd tb ?_ | refine sBa tb ?_); try (first | refine gl tb ?_ | refine gg tb ?_ | refine ll tb ?_ | refine lg tb ?_))
      refine sAr (r := ((xs.length + 1 - i : Nat) : Int)) ?_ (hp := (wrap_i64 (by omega) (by omega)).trans (by omega))
      refine GL.cons (Step.appendZ tb rfl (Op1.of rfl (by first | exact fun _ => rfl | exact fun h => h | exact fun h => bL h | exact fun h => bL (bL h) | exact fun h => bL (bL (bL h)))) (Op1.of rfl (by first | exact fun _ => rfl | exact fun h => h | exact fun h => bL h | exact fun h => bL (bL h) | exact fun h => bL (bL (bL h)))) rfl rfl rfl rfl rfl hs hi (by omega) (by omega) (by omega) (by omega) rfl ?_)
      intro v1 w1 zs hzl ho1 hx1
      try (first | refine gl tb ?_ | refine gg tb ?_ | refine ll tb ?_ | refine lg tb ?_); repeat ((first | refine G.condT rfl ?_ | refine G.condF rfl ?_ | refine sFa tb ?_ | refine sLd tb ?_ | refine sLa tb ?_ | refine sLen tb ?_ | refine sFd tb ?_ | refine sBd tb ?_ | refine sBa tb ?_); try (first | refine gl tb ?_ | refine gg tb ?_ | refine ll tb ?_ | refine lg tb ?_))
      have hl1 : (xs.take i ++ zs).length = xs.length + 1 := by rw [List.length_append, List.length_take, hzl]; omega
      refine GL.cons (Step.sliceVl tb i rfl (Op1.of rfl (by first | exact fun _ => rfl | exact fun h => h | exact fun h => bL h | exact fun h => bL (bL h) | exact fun h => bL (bL (bL h)))) (Op1.of rfl (by first | exact fun _ => rfl | exact fun h => h | exact fun h => bL h | exact fun h => bL (bL h) | exact fun h => bL (bL (bL h)))) rfl rfl (fun _ => ⟨_, ho1.sli⟩) (fun _ => ⟨rfl, by omega⟩) rfl ?_)
      try (first | refine gl tb ?_ | refine gg tb ?_ | refine ll tb ?_ | refine lg tb ?_); repeat ((first | refine G.condT rfl ?_ | refine G.condF rfl ?_ | refine sFa tb ?_ | refine sLd tb ?_ | refine sLa tb ?_ | refine sLen tb ?_ | refine sFd tb ?_ | refine sBd tb ?_ | refine sBa tb ?_); try (first | refine gl tb ?_ | refine gg tb ?_ | refine ll tb ?_ | refine lg tb ?_))
      refine GL.cons (Step.copyO tb rfl (Op1.of rfl (by first | exact fun _ => rfl | exact fun h => h | exact fun h => bL h | exact fun h => bL (bL h) | exact fun h => bL (bL (bL h)))) (Op1.of rfl (by first | exact fun _ => rfl | exact fun h => h | exact fun h => bL h | exact fun h => bL (bL h) | exact fun h => bL (bL (bL h)))) rfl rfl rfl ho1 (hu.to hx1).sli h1x (by omega) (m := 1) (by rw [hl1]; simp only [List.length_cons, List.length_nil]; omega) (by simp) rfl ?_)
      intro w2 ho2 hg2
      have hx2 : Ext w w2 := hg2.below _ hx1
      have hl2 : (lay (xs.take i ++ zs) i ([x].take 1)).length = xs.length + 1 := by rw [lay_len (by simp; omega)]; exact hl1
      try (first | refine gl tb ?_ | refine gg tb ?_ | refine ll tb ?_ | refine lg tb ?_); repeat ((first | refine G.condT rfl ?_ | refine G.condF rfl ?_ | refine sFa tb ?_ | refine sLd tb ?_ | refine sLa tb ?_ | refine sLen tb ?_ | refine sFd tb ?_ | refine sBd tb ?_ | refine sBa tb ?_); try (first | refine gl tb ?_ | refine gg tb ?_ | refine ll tb ?_ | refine lg tb ?_))
      refine G.regionM [(0, true), (1, true), (2, true), (3, true), (4, true), (5, true), (6, true), (7, true), (8, false)] ((fun _ => True)) (by kernel_rfl) (by kernel_rfl) rfl mixed (trivial) rfl ?_
      try (refine mm tb ?_); repeat ((first | refine dFa tb ?_ | refine dLd tb ?_ | refine dLa tb ?_ | refine dLen tb ?_ | refine dFd tb ?_); try (refine mm tb ?_))
      refine dAd tb ?_
      try (refine mm tb ?_); repeat ((first | refine dFa tb ?_ | refine dLd tb ?_ | refine dLa tb ?_ | refine dLen tb ?_ | refine dFd tb ?_); try (refine mm tb ?_))
      refine GM.read (fun w' hS => Step.sliceVl tb (i + 1) rfl (Op1.of rfl (by first | exact fun _ => rfl | exact fun h => h | exact fun h => bL h | exact fun h => bL (bL h) | exact fun h => bL (bL (bL h)))) (Op1.of rfl (by first | exact fun _ => rfl | exact fun h => h | exact fun h => bL h | exact fun h => bL (bL h) | exact fun h => bL (bL (bL h)))) rfl rfl (fun _ => ⟨_, ho2.sli⟩) (fun _ => ⟨by omega, by omega⟩) rfl ⟨rfl, rfl⟩) rfl rfl ?_
      try (refine mm tb ?_); repeat ((first | refine dFa tb ?_ | refine dLd tb ?_ | refine dLa tb ?_ | refine dLen tb ?_ | refine dFd tb ?_); try (refine mm tb ?_))
      refine GM.read (fun w' hS => Step.sliceVl tb i rfl (Op1.of rfl (by first | exact fun _ => rfl | exact fun h => h | exact fun h => bL h | exact fun h => bL (bL h) | exact fun h => bL (bL (bL h)))) (Op1.of rfl (by first | exact fun _ => rfl | exact fun h => h | exact fun h => bL h | exact fun h => bL (bL h) | exact fun h => bL (bL (bL h)))) rfl rfl (fun _ => ⟨_, hs.sli⟩) (fun _ => ⟨rfl, hi⟩) rfl ⟨rfl, rfl⟩) rfl rfl ?_
      have hx3 : Ext w w2.drew := hx2.drew'
      have hsub := Sli.sub (hs.to hx3).sli hi (Nat.le_refl _)
      have hsl : ((xs.drop i).take (xs.length - i)).length = xs.length - i := by rw [List.length_take, List.length_drop]; omega
      refine GM.eff (Step.copyO tb rfl (Op1.of rfl (by first | exact fun _ => rfl | exact fun h => h | exact fun h => bL h | exact fun h => bL (bL h) | exact fun h => bL (bL (bL h)))) (Op1.of rfl (by first | exact fun _ => rfl | exact fun h => h | exact fun h => bL h | exact fun h => bL (bL h) | exact fun h => bL (bL (bL h)))) rfl rfl rfl (ho2.to (Ext.drew w2)) hsub (fun y hy => h1 y (List.mem_of_mem_drop (List.mem_of_mem_take (List.mem_of_mem_take hy)))) (by omega) (m := xs.length - i) (by rw [hl2, hsl]; omega) (by omega) rfl ?_)
      intro w4 ho4 hg4
      refine ⟨trivial, ?_⟩
      refine GM.nil ?_
      try (first | refine gl tb ?_ | refine gg tb ?_ | refine ll tb ?_ | refine lg tb ?_); repeat ((first | refine G.condT rfl ?_ | refine G.condF rfl ?_ | refine sFa tb ?_ | refine sLd tb ?_ | refine sLa tb ?_ | refine sLen tb ?_ | refine sFd tb ?_ | refine sBd tb ?_ | refine sBa tb ?_); try (first | refine gl tb ?_ | refine gg tb ?_ | refine ll tb ?_ | refine lg tb ?_))
      refine G.ret1 rfl rfl rfl rfl ?_
      rw [List.take_of_length_le (l := (xs.drop i).take (xs.length - i)) (by omega), layA xs zs x i hlt hzl] at ho4
      exact ⟨ho4.mono hB, Grew.ofExt (hg4.below _ hx3) hB⟩
    · have hroom : xs.length < cap := by omega
      obtain ⟨y, ho1⟩ := hs.up hroom (by omega)
      have hl1 : (xs ++ [y]).length = xs.length + 1 := by simp
      try (first | refine gl tb ?_ | refine gg tb ?_ | refine ll tb ?_ | refine lg tb ?_); repeat ((first | refine G.condT rfl ?_ | refine G.condF rfl ?_ | refine sFa tb ?_ | refine sLd tb ?_ | refine sLa tb ?_ | refine sLen tb ?_ | refine sFd tb ?_ | refine sBd tb ?_ | refine sBa tb ?_); try (first | refine gl tb ?_ | refine gg tb ?_ | refine ll tb ?_ | refine lg tb ?_))
      refine sAd tb ?_
      try (first | refine gl tb ?_ | refine gg tb ?_ | refine ll tb ?_ | refine lg tb ?_); repeat ((first | refine G.condT rfl ?_ | refine G.condF rfl ?_ | refine sFa tb ?_ | refine sLd tb ?_ | refine sLa tb ?_ | refine sLen tb ?_ | refine sFd tb ?_ | refine sBd tb ?_ | refine sBa tb ?_); try (first | refine gl tb ?_ | refine gg tb ?_ | refine ll tb ?_ | refine lg tb ?_))
      refine GL.cons (Step.sliceCap tb (b := xs.length + 1) rfl (Op1.of rfl (by first | exact fun _ => rfl | exact fun h => h | exact fun h => bL h | exact fun h => bL (bL h) | exact fun h => bL (bL (bL h)))) (Op1.of rfl (by first | exact fun _ => rfl | exact fun h => h | exact fun h => bL h | exact fun h => bL (bL h) | exact fun h => bL (bL (bL h)))) rfl rfl (fun _ => ⟨by omega, by omega⟩) rfl ?_)
      try (first | refine gl tb ?_ | refine gg tb ?_ | refine ll tb ?_ | refine lg tb ?_); repeat ((first | refine G.condT rfl ?_ | refine G.condF rfl ?_ | refine sFa tb ?_ | refine sLd tb ?_ | refine sLa tb ?_ | refine sLen tb ?_ | refine sFd tb ?_ | refine sBd tb ?_ | refine sBa tb ?_); try (first | refine gl tb ?_ | refine gg tb ?_ | refine ll tb ?_ | refine lg tb ?_))
      refine sAd tb ?_
      try (first | refine gl tb ?_ | refine gg tb ?_ | refine ll tb ?_ | refine lg tb ?_); repeat ((first | refine G.condT rfl ?_ | refine G.condF rfl ?_ | refine sFa tb ?_ | refine sLd tb ?_ | refine sLa tb ?_ | refine sLen tb ?_ | refine sFd tb ?_ | refine sBd tb ?_ | refine sBa tb ?_); try (first | refine gl tb ?_ | refine gg tb ?_ | refine ll tb ?_ | refine lg tb ?_))
      refine GL.cons (Step.sliceVl tb (i + 1) rfl (Op1.of rfl (by first | exact fun _ => rfl | exact fun h => h | exact fun h => bL h | exact fun h => bL (bL h) | exact fun h => bL (bL (bL h)))) (Op1.of rfl (by first | exact fun _ => rfl | exact fun h => h | exact fun h => bL h | exact fun h => bL (bL h) | exact fun h => bL (bL (bL h)))) rfl rfl (fun _ => ⟨_, ho1.sli⟩) (fun _ => ⟨by omega, by omega⟩) rfl ?_)
      try (first | refine gl tb ?_ | refine gg tb ?_ | refine ll tb ?_ | refine lg tb ?_); repeat ((first | refine G.condT rfl ?_ | refine G.condF rfl ?_ | refine sFa tb ?_ | refine sLd tb ?_ | refine sLa tb ?_ | refine sLen tb ?_ | refine sFd tb ?_ | refine sBd tb ?_ | refine sBa tb ?_); try (first | refine gl tb ?_ | refine gg tb ?_ | refine ll tb ?_ | refine lg tb ?_))
      refine GL.cons (Step.callV rfl rfl rfl rfl (r := .bool false) ?_ ?_)
      · rw [run_callFunc_extern Tryd.func86 (by kernel_rfl) (by kernel_rfl) (by kernel_rfl) (e := Extern.SlicesOverlaps.overlaps #[24, 24] #[4]) (by kernel_rfl),
          overlaps_no tb rfl rfl (by decide) hu ho1 (by simp) (fun b hb => hne b hb) (by omega)]
        rfl
      try (first | refine gl tb ?_ | refine gg tb ?_ | refine ll tb ?_ | refine lg tb ?_); repeat ((first | refine G.condT rfl ?_ | refine G.condF rfl ?_ | refine sFa tb ?_ | refine sLd tb ?_ | refine sLa tb ?_ | refine sLen tb ?_ | refine sFd tb ?_ | refine sBd tb ?_ | refine sBa tb ?_); try (first | refine gl tb ?_ | refine gg tb ?_ | refine ll tb ?_ | refine lg tb ?_))
      refine G.regionM [(0, true), (1, true), (2, true), (3, true), (4, true), (5, true), (6, true), (7, true), (8, false)] ((fun _ => True)) (by kernel_rfl) (by kernel_rfl) rfl mixed (trivial) rfl ?_
      try (refine mm tb ?_); repeat ((first | refine dFa tb ?_ | refine dLd tb ?_ | refine dLa tb ?_ | refine dLen tb ?_ | refine dFd tb ?_); try (refine mm tb ?_))
      refine dAd tb ?_
      try (refine mm tb ?_); repeat ((first | refine dFa tb ?_ | refine dLd tb ?_ | refine dLa tb ?_ | refine dLen tb ?_ | refine dFd tb ?_); try (refine mm tb ?_))
      refine GM.read (fun w' hS => Step.sliceVl tb (i + 1) rfl (Op1.of rfl (by first | exact fun _ => rfl | exact fun h => h | exact fun h => bL h | exact fun h => bL (bL h) | exact fun h => bL (bL (bL h)))) (Op1.of rfl (by first | exact fun _ => rfl | exact fun h => h | exact fun h => bL h | exact fun h => bL (bL h) | exact fun h => bL (bL (bL h)))) rfl rfl (fun _ => ⟨_, ho1.sli⟩) (fun _ => ⟨by omega, by omega⟩) rfl ⟨rfl, rfl⟩) rfl rfl ?_
      try (refine mm tb ?_); repeat ((first | refine dFa tb ?_ | refine dLd tb ?_ | refine dLa tb ?_ | refine dLen tb ?_ | refine dFd tb ?_); try (refine mm tb ?_))
      refine GM.read (fun w' hS => Step.sliceVl tb i rfl (Op1.of rfl (by first | exact fun _ => rfl | exact fun h => h | exact fun h => bL h | exact fun h => bL (bL h) | exact fun h => bL (bL (bL h)))) (Op1.of rfl (by first | exact fun _ => rfl | exact fun h => h | exact fun h => bL h | exact fun h => bL (bL h) | exact fun h => bL (bL (bL h)))) rfl rfl (fun _ => ⟨_, ho1.sli⟩) (fun _ => ⟨rfl, by omega⟩) rfl ⟨rfl, rfl⟩) rfl rfl ?_
      have ho2 := ho1.to (Ext.drew w)
      have hu2 := hu.to (Ext.drew w)
      have hsub := Sli.sub ho2.sli (l := i) (by omega) (Nat.le_refl _)
      have hsl : (((xs ++ [y]).drop i).take ((xs ++ [y]).length - i)).length = xs.length + 1 - i := by rw [List.length_take, List.length_drop]; omega
      have e1 : (((xs ++ [y]).drop i).take ((xs ++ [y]).length - i)).take (xs.length - i) = ((xs ++ [y]).drop i).take (xs.length - i) := by rw [List.take_take, Nat.min_eq_left (by omega)]
      have e2 : ((xs ++ [y]).drop i).take (xs.length - i) = xs.drop i := by
        rw [List.drop_append_of_le_length (by omega), List.take_left' (by rw [List.length_drop])]
      refine GM.eff (Step.copyO tb rfl (Op1.of rfl (by first | exact fun _ => rfl | exact fun h => h | exact fun h => bL h | exact fun h => bL (bL h) | exact fun h => bL (bL (bL h)))) (Op1.of rfl (by first | exact fun _ => rfl | exact fun h => h | exact fun h => bL h | exact fun h => bL (bL h) | exact fun h => bL (bL (bL h)))) rfl rfl rfl ho2 hsub (fun z hz => h1 z (by rw [e1, e2] at hz; exact List.mem_of_mem_drop hz)) (by omega) (m := xs.length - i) (by rw [hsl, hl1]; omega) (by omega) rfl ?_)
      intro w4 ho4 hg4
      refine ⟨trivial, ?_⟩
      refine GM.nil ?_
      rw [e1] at ho4
      have hl4 : (lay (xs ++ [y]) (i + 1) (((xs ++ [y]).drop i).take (xs.length - i))).length = xs.length + 1 := by rw [e2, lay_len (by rw [hl1, List.length_drop]; omega)]; exact hl1
      have hu4 := hu2.grew hg4 hne
      try (first | refine gl tb ?_ | refine gg tb ?_ | refine ll tb ?_ | refine lg tb ?_); repeat ((first | refine G.condT rfl ?_ | refine G.condF rfl ?_ | refine sFa tb ?_ | refine sLd tb ?_ | refine sLa tb ?_ | refine sLen tb ?_ | refine sFd tb ?_ | refine sBd tb ?_ | refine sBa tb ?_); try (first | refine gl tb ?_ | refine gg tb ?_ | refine ll tb ?_ | refine lg tb ?_))
      refine GL.cons (Step.sliceVl tb i rfl (Op1.of rfl (by first | exact fun _ => rfl | exact fun h => h | exact fun h => bL h | exact fun h => bL (bL h) | exact fun h => bL (bL (bL h)))) (Op1.of rfl (by first | exact fun _ => rfl | exact fun h => h | exact fun h => bL h | exact fun h => bL (bL h) | exact fun h => bL (bL (bL h)))) rfl rfl (fun _ => ⟨_, ho4.sli⟩) (fun _ => ⟨rfl, by omega⟩) rfl ?_)
      try (first | refine gl tb ?_ | refine gg tb ?_ | refine ll tb ?_ | refine lg tb ?_); repeat ((first | refine G.condT rfl ?_ | refine G.condF rfl ?_ | refine sFa tb ?_ | refine sLd tb ?_ | refine sLa tb ?_ | refine sLen tb ?_ | refine sFd tb ?_ | refine sBd tb ?_ | refine sBa tb ?_); try (first | refine gl tb ?_ | refine gg tb ?_ | refine ll tb ?_ | refine lg tb ?_))
      refine GL.cons (Step.copyO tb rfl (Op1.of rfl (by first | exact fun _ => rfl | exact fun h => h | exact fun h => bL h | exact fun h => bL (bL h) | exact fun h => bL (bL (bL h)))) (Op1.of rfl (by first | exact fun _ => rfl | exact fun h => h | exact fun h => bL h | exact fun h => bL (bL h) | exact fun h => bL (bL (bL h)))) rfl rfl rfl ho4 hu4.sli h1x (by omega) (m := 1) (by rw [hl4]; simp only [List.length_cons, List.length_nil]; omega) (by simp) rfl ?_)
      intro w5 ho5 hg5
      try (first | refine gl tb ?_ | refine gg tb ?_ | refine ll tb ?_ | refine lg tb ?_); repeat ((first | refine G.condT rfl ?_ | refine G.condF rfl ?_ | refine sFa tb ?_ | refine sLd tb ?_ | refine sLa tb ?_ | refine sLen tb ?_ | refine sFd tb ?_ | refine sBd tb ?_ | refine sBa tb ?_); try (first | refine gl tb ?_ | refine gg tb ?_ | refine ll tb ?_ | refine lg tb ?_))
      refine G.ret1 rfl rfl rfl rfl ?_
      rw [layB xs x y i hlt] at ho5
      have hg := hg4.trans hg5
      exact ⟨ho5, (Grew.ofExt (Ext.drew w) hB).trans ⟨hg.below, hg.size, hg.block⟩⟩
end Go.Proofs.YtmkckngecjpklaaDoor.Lab
end
section
open Go Go.Vg Go.RowKit Go.Proofs Go.Proofs.YtmkckngecjpklaaDoor
namespace Go.Proofs.YtmkckngecjpklaaDoor
set_option linter.unusedSimpArgs false
namespace Lab
def cmpB (a b : List UInt8) : Int := if Op.bytesLess a b = true then -1 else if (!Op.bytesLess a b && !decide (a = b)) = true then 1 else 0
theorem isNaN_ok (s : List UInt8) (w : World) : Ret Tryd.prog 85 ⟨[S s]⟩ w fun r w' => r = .bool false ∧ w' = w := by
  refine ret_of_G Tryd.func85 rfl Tryd.ntmps85 rfl ?_
  simp only [argEnv]
  try (first | refine gl tb ?_ | refine gg tb ?_ | refine ll tb ?_ | refine lg tb ?_); repeat ((first | refine G.condT rfl ?_ | refine G.condF rfl ?_); try (first | refine gl tb ?_ | refine gg tb ?_ | refine ll tb ?_ | refine lg tb ?_))
  refine G.ret1 rfl rfl rfl rfl ?_
  exact ⟨by simp, rfl⟩
theorem compare_ok (a b : List UInt8) (w : World) : Ret Tryd.prog 75 ⟨[S a, S b]⟩ w fun r w' => r = .int .i64 (cmpB a b) ∧ w' = w := by
  refine ret_of_G Tryd.func75 rfl Tryd.ntmps75 rfl ?_
  simp only [argEnv]
  try (first | refine gl tb ?_ | refine gg tb ?_ | refine ll tb ?_ | refine lg tb ?_); repeat ((first | refine G.condT rfl ?_ | refine G.condF rfl ?_); try (first | refine gl tb ?_ | refine gg tb ?_ | refine ll tb ?_ | refine lg tb ?_))
  refine GL.cons (Step.callF rfl rfl rfl c85 rfl (isNaN_ok a w) ?_)
  rintro _ w1 ⟨rfl, hw⟩
  obtain rfl : w = w1 := hw.symm
  try (first | refine gl tb ?_ | refine gg tb ?_ | refine ll tb ?_ | refine lg tb ?_); repeat ((first | refine G.condT rfl ?_ | refine G.condF rfl ?_); try (first | refine gl tb ?_ | refine gg tb ?_ | refine ll tb ?_ | refine lg tb ?_))
  refine GL.cons (Step.callF rfl rfl rfl c85 rfl (isNaN_ok b w) ?_)
  rintro _ w1 ⟨rfl, hw⟩
  obtain rfl : w = w1 := hw.symm
  try (first | refine gl tb ?_ | refine gg tb ?_ | refine ll tb ?_ | refine lg tb ?_); repeat ((first | refine G.condT rfl ?_ | refine G.condF rfl ?_); try (first | refine gl tb ?_ | refine gg tb ?_ | refine ll tb ?_ | refine lg tb ?_))
  first | refine G.condD rfl (fun hc => ?_) (fun hc => ?_) | refine G.condN rfl (fun hc => ?_) (fun hc => ?_) | refine G.cond rfl (fun hc => ?_) (fun hc => ?_)
  · try (first | refine gl tb ?_ | refine gg tb ?_ | refine ll tb ?_ | refine lg tb ?_); repeat ((first | refine G.condT rfl ?_ | refine G.condF rfl ?_); try (first | refine gl tb ?_ | refine gg tb ?_ | refine ll tb ?_ | refine lg tb ?_))
    refine G.ret1 rfl rfl rfl rfl ?_
    exact ⟨by rw [cmpB, if_pos hc], rfl⟩
  · have hc1 := hc
    try (first | refine gl tb ?_ | refine gg tb ?_ | refine ll tb ?_ | refine lg tb ?_); repeat ((first | refine G.condT rfl ?_ | refine G.condF rfl ?_); try (first | refine gl tb ?_ | refine gg tb ?_ | refine ll tb ?_ | refine lg tb ?_))
    first | refine G.condD rfl (fun hc => ?_) (fun hc => ?_) | refine G.condN rfl (fun hc => ?_) (fun hc => ?_) | refine G.cond rfl (fun hc => ?_) (fun hc => ?_)
    · try (first | refine gl tb ?_ | refine gg tb ?_ | refine ll tb ?_ | refine lg tb ?_); repeat ((first | refine G.condT rfl ?_ | refine G.condF rfl ?_); try (first | refine gl tb ?_ | refine gg tb ?_ | refine ll tb ?_ | refine lg tb ?_))
      refine G.ret1 rfl rfl rfl rfl ?_
      exact ⟨by rw [cmpB, if_neg (by rw [hc1]; simp), if_pos hc], rfl⟩
    · try (first | refine gl tb ?_ | refine gg tb ?_ | refine ll tb ?_ | refine lg tb ?_); repeat ((first | refine G.condT rfl ?_ | refine G.condF rfl ?_); try (first | refine gl tb ?_ | refine gg tb ?_ | refine ll tb ?_ | refine lg tb ?_))
      refine G.ret1 rfl rfl rfl rfl ?_
      exact ⟨by rw [cmpB, if_neg (by rw [hc1]; simp), if_neg (by rw [hc]; simp)], rfl⟩
theorem bl_cons (a b : UInt8) (x y : List UInt8) : Op.bytesLess (a :: x) (b :: y) = true ↔ a.toNat < b.toNat ∨ a = b ∧ Op.bytesLess x y = true := by
  simp only [Op.bytesLess, Bool.or_eq_true, Bool.and_eq_true, decide_eq_true_eq, beq_iff_eq, UInt8.lt_iff_toNat_lt]
theorem bl_irrefl : ∀ a : List UInt8, Op.bytesLess a a = false
  | [] => rfl
  | a :: x => by
    rw [Bool.eq_false_iff]
    intro h
    rcases (bl_cons _ _ _ _).1 h with h | ⟨_, h⟩
    · omega
    · rw [bl_irrefl x] at h; cases h
theorem bl_trans : ∀ {a b c : List UInt8}, Op.bytesLess a b = true → Op.bytesLess b c = true → Op.bytesLess a c = true
  | _, _, [], _, h => by unfold Op.bytesLess at h; cases h
  | [], _, _ :: _, _, _ => rfl
  | _ :: _, [], _, h, _ => by unfold Op.bytesLess at h; cases h
  | a :: x, b :: y, c :: z, h1, h2 => by
    rw [bl_cons] at h1 h2 ⊢
    rcases h1 with h1 | ⟨rfl, h1⟩
    · rcases h2 with h2 | ⟨rfl, h2⟩
      · exact .inl (by omega)
      · exact .inl h1
    · rcases h2 with h2 | ⟨rfl, h2⟩
      · exact .inl h2
      · exact .inr ⟨rfl, bl_trans h1 h2⟩
theorem bl_tri : ∀ (a b : List UInt8), Op.bytesLess a b = true ∨ a = b ∨ Op.bytesLess b a = true
  | [], [] => .inr (.inl rfl)
  | [], _ :: _ => .inl rfl
  | _ :: _, [] => .inr (.inr rfl)
  | a :: x, b :: y => by
    rw [bl_cons, bl_cons]
    rcases Nat.lt_trichotomy a.toNat b.toNat with h | h | h
    · exact .inl (.inl h)
    · obtain rfl := UInt8.toNat_inj.1 h
      rcases bl_tri x y with h | rfl | h
      · exact .inl (.inr ⟨rfl, h⟩)
      · exact .inr (.inl rfl)
      · exact .inr (.inr (.inr ⟨rfl, h⟩))
    · exact .inr (.inr (.inl h))
theorem bl_asymm {a b : List UInt8} (h : Op.bytesLess a b = true) : Op.bytesLess b a = false := by
  rw [Bool.eq_false_iff]
  intro h2
  have := bl_trans h h2
  rw [bl_irrefl] at this; cases this
theorem bl_not {a b : List UInt8} (h : Op.bytesLess a b = false) : b = a ∨ Op.bytesLess b a = true := by
  rcases bl_tri a b with h1 | h1 | h1
  · rw [h1] at h; cases h
  · exact .inl h1.symm
  · exact .inr h1
end Lab
end Go.Proofs.YtmkckngecjpklaaDoor
end
section
open Go Go.Vg Go.RowKit Go.Proofs Go.Proofs.YtmkckngecjpklaaDoor
namespace Go.Proofs.YtmkckngecjpklaaDoor
set_option linter.unusedSimpArgs false
namespace Lab
def sortedL (ls : List Lab) : Prop := ls.Pairwise fun x y => Op.bytesLess y.1 x.1 = false
theorem dw_sorted {l : List Lab} {x : Lab} (h : sortedL l) : ∀ y ∈ l.dropWhile (fun y => Op.bytesLess y.1 x.1), Op.bytesLess y.1 x.1 = false := by
  induction l with
  | nil => simp
  | cons a r ih =>
    intro y hy
    unfold sortedL at h
    rw [List.pairwise_cons] at h
    cases ha : Op.bytesLess a.1 x.1 with
    | true => simp only [List.dropWhile_cons, ha, if_true] at hy; exact ih h.2 y hy
    | false =>
      simp only [List.dropWhile_cons, ha, Bool.false_eq_true, if_false] at hy
      rcases List.mem_cons.1 hy with rfl | hy
      · exact ha
      · have h1 := h.1 y hy
        rw [Bool.eq_false_iff]
        intro h2
        rcases bl_not h1 with e | e
        · rw [e, h2] at ha; cases ha
        · have := bl_trans e h2; rw [this] at ha; cases ha
theorem tw_all {l : List Lab} {x : Lab} : ∀ y ∈ l.takeWhile (fun y => Op.bytesLess y.1 x.1), Op.bytesLess y.1 x.1 = true := by
  induction l with
  | nil => simp
  | cons a r ih =>
    intro y hy
    cases ha : Op.bytesLess a.1 x.1 with
    | true =>
      simp only [List.takeWhile_cons, ha, if_true] at hy
      rcases List.mem_cons.1 hy with rfl | hy
      · exact ha
      · exact ih y hy
    | false => simp only [List.takeWhile_cons, ha, Bool.false_eq_true, if_false] at hy; cases hy
end Lab
end Go.Proofs.YtmkckngecjpklaaDoor
end
section
open Go Go.Vg Go.RowKit Go.Proofs Go.Proofs.YtmkckngecjpklaaDoor
namespace Go.Proofs.YtmkckngecjpklaaDoor.Lab
set_option linter.unusedSimpArgs false

theorem cmpB_neg (a b : List UInt8) : cmpB a b < 0 ↔ Op.bytesLess a b = true := by
  unfold cmpB
  split
  · rename_i h; simp [h]
  · rename_i h
    split
    · simp [h]
    · simp [h]
theorem twl_all {ls : List Lab} {name : List UInt8} {q : Nat} {x : Lab} (hx : (ls.takeWhile fun y : Lab => Op.bytesLess y.1 name)[q]? = some x) : Op.bytesLess x.1 name = true := by
  have hm := List.mem_of_getElem? hx
  have := List.all_eq_true.1 (List.all_takeWhile (l := ls) (p := fun y : Lab => Op.bytesLess y.1 name)) x hm
  simpa using this
theorem lt_lessN {ls : List Lab} {name : List UInt8} (h : sortedL ls) {q : Nat} (_ : q < ls.length) {x : Lab} (hx : ls[q]? = some x) : Op.bytesLess x.1 name = true ↔ q < lessN ls name := by
  have hd := dw_sorted (x := (name, [])) h
  have ht := List.takeWhile_append_dropWhile (p := fun y : Lab => Op.bytesLess y.1 name) (l := ls)
  unfold lessN
  constructor
  · intro hb
    apply Classical.byContradiction
    intro hc
    rw [← ht, List.getElem?_append_right (by omega)] at hx
    have := hd x (List.mem_of_getElem? hx)
    rw [hb] at this; cases this
  · intro hlt
    rw [← ht, List.getElem?_append_left hlt] at hx
    exact twl_all hx
theorem lessN_le (ls : List Lab) (name : List UInt8) : lessN ls name ≤ ls.length := (List.takeWhile_sublist _).length_le

theorem with1_ok (x : Lab) (name : List UInt8) (w : World) : Ret Tryd.prog 74 ⟨[.agg ⟨labC x⟩, S name]⟩ w fun r w' => r = .int .i64 (cmpB x.1 name) ∧ Ext w w' := by
  refine ret_of_G Tryd.func74 rfl Tryd.ntmps74 rfl ?_
  simp only [argEnv]
  try (first | refine gl tb ?_ | refine gg tb ?_ | refine ll tb ?_ | refine lg tb ?_); repeat ((first | refine G.condT rfl ?_ | refine G.condF rfl ?_ | refine sFa tb ?_ | refine sLd tb ?_ | refine sLa tb ?_ | refine sLen tb ?_ | refine sFd tb ?_ | refine sBd tb ?_ | refine sBa tb ?_); try (first | refine gl tb ?_ | refine gg tb ?_ | refine ll tb ?_ | refine lg tb ?_))
  refine sBox ?_
  intro w1 hb1 hs1 hx1
  try (first | refine gl tb ?_ | refine gg tb ?_ | refine ll tb ?_ | refine lg tb ?_); repeat ((first | refine G.condT rfl ?_ | refine G.condF rfl ?_ | refine sFa tb ?_ | refine sLd tb ?_ | refine sLa tb ?_ | refine sLen tb ?_ | refine sFd tb ?_ | refine sBd tb ?_ | refine sBa tb ?_); try (first | refine gl tb ?_ | refine gg tb ?_ | refine ll tb ?_ | refine lg tb ?_))
  refine sCall c75 (compare_ok x.1 name w1) ?_
  rintro _ _ ⟨rfl, rfl⟩
  try (first | refine gl tb ?_ | refine gg tb ?_ | refine ll tb ?_ | refine lg tb ?_); repeat ((first | refine G.condT rfl ?_ | refine G.condF rfl ?_ | refine sFa tb ?_ | refine sLd tb ?_ | refine sLa tb ?_ | refine sLen tb ?_ | refine sFd tb ?_ | refine sBd tb ?_ | refine sBa tb ?_); try (first | refine gl tb ?_ | refine gg tb ?_ | refine ll tb ?_ | refine lg tb ?_))
  refine G.ret1 rfl rfl rfl rfl ?_
  exact ⟨rfl, hx1⟩

theorem bsearch_ok (v : Value) (ls : List Lab) (name : List UInt8) (w : World) (hv : Labs w v ls) (hs : sortedL ls) (hn : ls.length ≤ 1000) :
    Ret Tryd.prog 73 ⟨[v, S name, .func (.func 74) #[] #[]]⟩ w fun r w' => ∃ b, r = .tuple ⟨[.int .i64 (lessN ls name), .bool b]⟩ ∧ Ext w w' := by
  have hle := lessN_le ls name
  refine ret_of_G Tryd.func73 rfl Tryd.ntmps73 rfl ?_
  simp only [argEnv]
  try (first | refine gl tb ?_ | refine gg tb ?_ | refine ll tb ?_ | refine lg tb ?_); repeat ((first | refine G.condT rfl ?_ | refine G.condF rfl ?_ | refine sFa tb ?_ | refine sLd tb ?_ | refine sLa tb ?_ | refine sLen tb ?_ | refine sFd tb ?_ | refine sBd tb ?_ | refine sBa tb ?_); try (first | refine gl tb ?_ | refine gg tb ?_ | refine ll tb ?_ | refine lg tb ?_))
  rw [List.length_map]
  try (first | refine gl tb ?_ | refine gg tb ?_ | refine ll tb ?_ | refine lg tb ?_); repeat ((first | refine G.condT rfl ?_ | refine G.condF rfl ?_ | refine sFa tb ?_ | refine sLd tb ?_ | refine sLa tb ?_ | refine sLen tb ?_ | refine sFd tb ?_ | refine sBd tb ?_ | refine sBa tb ?_); try (first | refine gl tb ?_ | refine gg tb ?_ | refine ll tb ?_ | refine lg tb ?_))
  refine (G.loop (fun x : Nat × Nat => [(0, none, v), (1, none, S name), (2, none, .func (.func 74) #[] #[]), (8, none, .int .i64 ls.length), (9, none, .int .i64 x.1), (10, none, .int .i64 x.2)]) (fun x w' => Ext w w' ∧ x.1 ≤ lessN ls name ∧ lessN ls name ≤ x.2 ∧ x.2 ≤ ls.length) (fun x => x.2 - x.1) (0, ls.length) (by repeat (first | exact Sub.nil _ | refine Sub.cons rfl ?_)) ⟨Ext.refl _, by simp, hle, Nat.le_refl _⟩ ?_)
  rintro ⟨i, j⟩ w1 ⟨hx1, hi, hj, hjn⟩
  simp only at hi hj hjn ⊢
  have hv1 := hv.to hx1
  try (first | refine gl tb ?_ | refine gg tb ?_ | refine ll tb ?_ | refine lg tb ?_); repeat ((first | refine G.condT rfl ?_ | refine G.condF rfl ?_ | refine sFa tb ?_ | refine sLd tb ?_ | refine sLa tb ?_ | refine sLen tb ?_ | refine sFd tb ?_ | refine sBd tb ?_ | refine sBa tb ?_); try (first | refine gl tb ?_ | refine gg tb ?_ | refine ll tb ?_ | refine lg tb ?_))
  first | refine G.condD rfl (fun hc => ?_) (fun hc => ?_) | refine G.condN rfl (fun hc => ?_) (fun hc => ?_) | refine G.cond rfl (fun hc => ?_) (fun hc => ?_)
  · have hij : i < j := by omega
    obtain ⟨h, hh⟩ : ∃ h, h = (i + j) / 2 := ⟨_, rfl⟩
    have hih : i ≤ h ∧ h < j := by omega
    have hlt : h < ls.length := by omega
    obtain ⟨x, hmem, hget, -, -, hgl⟩ := Labs.at hlt
    have hp := lt_lessN (name := name) hs hlt hgl
    try (first | refine gl tb ?_ | refine gg tb ?_ | refine ll tb ?_ | refine lg tb ?_); repeat ((first | refine G.condT rfl ?_ | refine G.condF rfl ?_ | refine sFa tb ?_ | refine sLd tb ?_ | refine sLa tb ?_ | refine sLen tb ?_ | refine sFd tb ?_ | refine sBd tb ?_ | refine sBa tb ?_); try (first | refine gl tb ?_ | refine gg tb ?_ | refine ll tb ?_ | refine lg tb ?_))
    refine sAd tb ?_
    refine sCv tb (r := ((i + j : Nat) : Int)) ?_ (hr := (wrap_u64 (by omega) (by omega)).trans (by omega))
    refine sShr (a := ((i + j : Nat) : Int)) (n := 1) (r := (h : Int)) (by rw [hh]; omega) ?_
    refine sCv tb (r := (h : Int)) ?_ (hr := wrap_i64 (by omega) (by omega))
    try (first | refine gl tb ?_ | refine gg tb ?_ | refine ll tb ?_ | refine lg tb ?_); repeat ((first | refine G.condT rfl ?_ | refine G.condF rfl ?_ | refine sFa tb ?_ | refine sLd tb ?_ | refine sLa tb ?_ | refine sLen tb ?_ | refine sFd tb ?_ | refine sBd tb ?_ | refine sIa tb h ?_); try (first | refine gl tb ?_ | refine gg tb ?_ | refine ll tb ?_ | refine lg tb ?_))
    refine GL.cons (Step.callC rfl (Op1.of rfl (by first | exact fun _ => rfl | exact fun h => h | exact fun h => bL h | exact fun h => bL (bL h) | exact fun h => bL (bL (bL h)))) rfl rfl c74 rfl (with1_ok x name w1) ?_)
    rintro _ w2 ⟨rfl, hx2⟩
    try (first | refine gl tb ?_ | refine gg tb ?_ | refine ll tb ?_ | refine lg tb ?_); repeat ((first | refine G.condT rfl ?_ | refine G.condF rfl ?_ | refine sFa tb ?_ | refine sLd tb ?_ | refine sLa tb ?_ | refine sLen tb ?_ | refine sFd tb ?_ | refine sBd tb ?_ | refine sBa tb ?_); try (first | refine gl tb ?_ | refine gg tb ?_ | refine ll tb ?_ | refine lg tb ?_))
    first | refine G.condD rfl (fun hc => ?_) (fun hc => ?_) | refine G.condN rfl (fun hc => ?_) (fun hc => ?_) | refine G.cond rfl (fun hc => ?_) (fun hc => ?_)
    · have hlt2 := hp.1 ((cmpB_neg _ _).1 hc)
      try (first | refine gl tb ?_ | refine gg tb ?_ | refine ll tb ?_ | refine lg tb ?_); repeat ((first | refine G.condT rfl ?_ | refine G.condF rfl ?_ | refine sFa tb ?_ | refine sLd tb ?_ | refine sLa tb ?_ | refine sLen tb ?_ | refine sFd tb ?_ | refine sBd tb ?_ | refine sBa tb ?_); try (first | refine gl tb ?_ | refine gg tb ?_ | refine ll tb ?_ | refine lg tb ?_))
      refine sAd tb ?_
      try (first | refine gl tb ?_ | refine gg tb ?_ | refine ll tb ?_ | refine lg tb ?_); repeat ((first | refine G.condT rfl ?_ | refine G.condF rfl ?_ | refine sFa tb ?_ | refine sLd tb ?_ | refine sLa tb ?_ | refine sLen tb ?_ | refine sFd tb ?_ | refine sBd tb ?_ | refine sBa tb ?_); try (first | refine gl tb ?_ | refine gg tb ?_ | refine ll tb ?_ | refine lg tb ?_))
      exact G.lp (x := (i, j)) (h + 1, j) (by repeat (first | exact Sub.nil _ | refine Sub.cons rfl ?_)) ⟨hx1.trans hx2, by simp only; omega, hj, hjn⟩ (by simp only; omega)
    · have hge : lessN ls name ≤ h := by
        apply Classical.byContradiction
        intro hcc
        exact hc ((cmpB_neg _ _).2 (hp.2 (by omega)))
      try (first | refine gl tb ?_ | refine gg tb ?_ | refine ll tb ?_ | refine lg tb ?_); repeat ((first | refine G.condT rfl ?_ | refine G.condF rfl ?_ | refine sFa tb ?_ | refine sLd tb ?_ | refine sLa tb ?_ | refine sLen tb ?_ | refine sFd tb ?_ | refine sBd tb ?_ | refine sBa tb ?_); try (first | refine gl tb ?_ | refine gg tb ?_ | refine ll tb ?_ | refine lg tb ?_))
      exact G.lp (x := (i, j)) (i, h) (by repeat (first | exact Sub.nil _ | refine Sub.cons rfl ?_)) ⟨hx1.trans hx2, hi, hge, by simp only; omega⟩ (by simp only; omega)
  · obtain rfl : i = lessN ls name := by omega
    obtain ⟨p, hp⟩ : ∃ p, p = lessN ls name := ⟨_, rfl⟩
    rw [← hp] at hi hj ⊢
    try (first | refine gl tb ?_ | refine gg tb ?_ | refine ll tb ?_ | refine lg tb ?_); repeat ((first | refine G.condT rfl ?_ | refine G.condF rfl ?_ | refine sFa tb ?_ | refine sLd tb ?_ | refine sLa tb ?_ | refine sLen tb ?_ | refine sFd tb ?_ | refine sBd tb ?_ | refine sBa tb ?_); try (first | refine gl tb ?_ | refine gg tb ?_ | refine ll tb ?_ | refine lg tb ?_))
    by_cases hlt : p < ls.length
    · obtain ⟨x, hmem, hget, -, -, hgl⟩ := Labs.at hlt
      try (first | refine gl tb ?_ | refine gg tb ?_ | refine ll tb ?_ | refine lg tb ?_); repeat ((first | refine G.condT rfl ?_ | refine G.condF rfl ?_ | refine sFa tb ?_ | refine sLd tb ?_ | refine sLa tb ?_ | refine sLen tb ?_ | refine sFd tb ?_ | refine sBd tb ?_ | refine sIa tb p ?_); try (first | refine gl tb ?_ | refine gg tb ?_ | refine ll tb ?_ | refine lg tb ?_))
      refine GL.cons (Step.callXC rfl (Op1.of rfl (by first | exact fun _ => rfl | exact fun h => h | exact fun h => bL h | exact fun h => bL (bL h) | exact fun h => bL (bL (bL h)))) rfl (by repeat (first | exact OpL.nil | refine OpL.cons (Op1.of rfl (by first | exact fun _ => rfl | exact fun h => h | exact fun h => bL h | exact fun h => bL (bL h) | exact fun h => bL (bL (bL h)))) ?_)) c74 rfl (fun _ => with1_ok x name w1) ?_ (vs := [.agg ⟨labC x⟩, S name]))
      intro w2 hx2
      try (first | refine gl tb ?_ | refine gg tb ?_ | refine ll tb ?_ | refine lg tb ?_); repeat ((first | refine G.condT rfl ?_ | refine G.condF rfl ?_ | refine sFa tb ?_ | refine sLd tb ?_ | refine sLa tb ?_ | refine sLen tb ?_ | refine sFd tb ?_ | refine sBd tb ?_ | refine sBa tb ?_); try (first | refine gl tb ?_ | refine gg tb ?_ | refine ll tb ?_ | refine lg tb ?_))
      refine G.ret2 rfl rfl rfl rfl rfl ?_
      exact ⟨_, rfl, hx1.trans hx2⟩
    · rw [show decide ((p : Int) < ls.length) = false from decide_eq_false (by omega)]
      refine GL.cons (Step.off (v := .bool false) rfl (of_decide_eq_true rfl) rfl ?_)
      refine GL.cons (Step.off (v := .bool false) rfl (of_decide_eq_true rfl) rfl ?_)
      try (first | refine gl tb ?_ | refine gg tb ?_ | refine ll tb ?_ | refine lg tb ?_); repeat ((first | refine G.condT rfl ?_ | refine G.condF rfl ?_ | refine sFa tb ?_ | refine sLd tb ?_ | refine sLa tb ?_ | refine sLen tb ?_ | refine sFd tb ?_ | refine sBd tb ?_ | refine sBa tb ?_); try (first | refine gl tb ?_ | refine gg tb ?_ | refine ll tb ?_ | refine lg tb ?_))
      refine GL.cons (Step.off (v := .bool false) rfl (of_decide_eq_true rfl) rfl ?_)
      refine GL.cons (Step.off (v := .bool false) rfl (of_decide_eq_true rfl) rfl ?_)
      try (first | refine gl tb ?_ | refine gg tb ?_ | refine ll tb ?_ | refine lg tb ?_); repeat ((first | refine G.condT rfl ?_ | refine G.condF rfl ?_ | refine sFa tb ?_ | refine sLd tb ?_ | refine sLa tb ?_ | refine sLen tb ?_ | refine sFd tb ?_ | refine sBd tb ?_ | refine sBa tb ?_); try (first | refine gl tb ?_ | refine gg tb ?_ | refine ll tb ?_ | refine lg tb ?_))
      refine G.ret2 rfl rfl rfl rfl rfl ?_
      exact ⟨_, rfl, hx1⟩
end Go.Proofs.YtmkckngecjpklaaDoor.Lab
end
section
open Go Go.Vg Go.RowKit Go.Proofs Go.Proofs.YtmkckngecjpklaaDoor
namespace Go.Proofs.YtmkckngecjpklaaDoor.Lab
set_option linter.unusedSimpArgs false

def woL (ls : List Lab) (name : List UInt8) : List Lab := pickL ls [name] false
def withS (ls : List Lab) (name value : List UInt8) : List Lab := if value = [] then woL ls name else putL (woL ls name) (name, value)
theorem woL_snoc (ls : List Lab) (name : List UInt8) (x : Lab) : woL (ls ++ [x]) name = if x.1 = name then woL ls name else woL ls name ++ [x] := by
  unfold woL
  rw [pickL_snoc]
  by_cases h : x.1 = name
  · rw [if_pos h, if_neg (by simp [h])]
  · rw [if_neg h, if_pos (by simp [h])]
theorem putL_at (ls : List Lab) (x : Lab) : (ls.map labC).take (lessN ls x.1) ++ labC x :: (ls.map labC).drop (lessN ls x.1) = (putL ls x).map labC := by
  unfold lessN putL
  rw [← List.map_take, ← List.map_drop, take_tw, drop_tw, List.map_append, List.map_cons]
theorem rest_len (ls : List Lab) (name : List UInt8) : (woL ls name).length ≤ ls.length := pickL_len ..

theorem with_ok (v : Value) (ls : List Lab) (name value : List UInt8) (w : World) (hv : Labs w v ls) (hs : sortedL ls) (hn : ls.length ≤ 1000) :
    Ret Tryd.prog 58 ⟨[v, S name, S value]⟩ w fun r w' => LO w' w.heap.size r (withS ls name value) ∧ Ext w w' := by
  refine ret_of_G Tryd.func58 rfl Tryd.ntmps58 rfl ?_
  simp only [argEnv]
  try (first | refine gl tb ?_ | refine gg tb ?_ | refine ll tb ?_ | refine lg tb ?_); repeat ((first | refine G.condT rfl ?_ | refine G.condF rfl ?_ | refine sFa tb ?_ | refine sLd tb ?_ | refine sLa tb ?_ | refine sLen tb ?_ | refine sFd tb ?_ | refine sBd tb ?_ | refine sBa tb ?_); try (first | refine gl tb ?_ | refine gg tb ?_ | refine ll tb ?_ | refine lg tb ?_))
  rw [List.length_map]
  try (first | refine gl tb ?_ | refine gg tb ?_ | refine ll tb ?_ | refine lg tb ?_); repeat ((first | refine G.condT rfl ?_ | refine G.condF rfl ?_ | refine sFa tb ?_ | refine sLd tb ?_ | refine sLa tb ?_ | refine sLen tb ?_ | refine sFd tb ?_ | refine sBd tb ?_ | refine sBa tb ?_); try (first | refine gl tb ?_ | refine gg tb ?_ | refine ll tb ?_ | refine lg tb ?_))
  refine (G.loop (fun x : Nat × Value => [(0, none, v), (1, none, S name), (2, none, S value), (7, none, x.2), (12, none, v), (13, none, .int .i64 ls.length), (14, none, .int .i64 x.1)]) (fun x w' => Ext w w' ∧ x.1 ≤ ls.length ∧ LO w' w.heap.size x.2 (woL (ls.take x.1) name)) (fun x => ls.length - x.1) (0, .slice none 0 0) (by repeat (first | exact Sub.nil _ | refine Sub.cons rfl ?_)) ⟨Ext.refl _, by simp, Owns.nil _ _ _ _⟩ ?_)
  rintro ⟨k, s⟩ w2 ⟨hx2, hk, ho⟩
  simp only at hk ho ⊢
  have hv2 := hv.to hx2
  try (first | refine gl tb ?_ | refine gg tb ?_ | refine ll tb ?_ | refine lg tb ?_); repeat ((first | refine G.condT rfl ?_ | refine G.condF rfl ?_ | refine sFa tb ?_ | refine sLd tb ?_ | refine sLa tb ?_ | refine sLen tb ?_ | refine sFd tb ?_ | refine sBd tb ?_ | refine sBa tb ?_); try (first | refine gl tb ?_ | refine gg tb ?_ | refine ll tb ?_ | refine lg tb ?_))
  first | refine G.condD rfl (fun hc => ?_) (fun hc => ?_) | refine G.condN rfl (fun hc => ?_) (fun hc => ?_) | refine G.cond rfl (fun hc => ?_) (fun hc => ?_)
  · have hlt : k < ls.length := by omega
    obtain ⟨x, hmem, hget, htk, -, -⟩ := Labs.at hlt
    have hst := woL_snoc (ls.take k) name x
    rw [← htk] at hst
    have hln := rest_len (ls.take k) name
    rw [List.length_take] at hln
    generalize woL (ls.take k) name = out at ho hst hln
    try (first | refine gl tb ?_ | refine gg tb ?_ | refine ll tb ?_ | refine lg tb ?_); repeat ((first | refine G.condT rfl ?_ | refine G.condF rfl ?_ | refine sFa tb ?_ | refine sLd tb ?_ | refine sLa tb ?_ | refine sLen tb ?_ | refine sFd tb ?_ | refine sBd tb ?_ | refine sIa tb k ?_); try (first | refine gl tb ?_ | refine gg tb ?_ | refine ll tb ?_ | refine lg tb ?_))
    refine sAl tb ?_
    intro w3 hb3 hs3 hx3
    refine sSt tb ?_ (vs := labC x) (hv := rfl) (hb := hb3) (h1 := labC_one1 x)
    intro w4 hb4 hw4
    have hx24 : Ext w2 w4 := Below.wr hx3 hw4 (Nat.le_refl _)
    have hx4 := hx2.trans hx24
    have ho4 := ho.to hx24
    have hz4 := hw4.size
    try (first | refine gl tb ?_ | refine gg tb ?_ | refine ll tb ?_ | refine lg tb ?_); repeat ((first | refine G.condT rfl ?_ | refine G.condF rfl ?_ | refine sFa tb ?_ | refine sLd tb ?_ | refine sLa tb ?_ | refine sLen tb ?_ | refine sFd tb ?_ | refine sBd tb ?_ | refine sBa tb ?_); try (first | refine gl tb ?_ | refine gg tb ?_ | refine ll tb ?_ | refine lg tb ?_))
    first | refine G.condD rfl (fun hc => ?_) (fun hc => ?_) | refine G.condN rfl (fun hc => ?_) (fun hc => ?_) | refine G.cond rfl (fun hc => ?_) (fun hc => ?_)
    · have hc' : ¬ x.1 = name := by simpa using hc
      rw [if_neg hc'] at hst
      try (first | refine gl tb ?_ | refine gg tb ?_ | refine ll tb ?_ | refine lg tb ?_); repeat ((first | refine G.condT rfl ?_ | refine G.condF rfl ?_ | refine sFa tb ?_ | refine sLd tb ?_ | refine sLa tb ?_ | refine sLen tb ?_ | refine sFd tb ?_ | refine sBd tb ?_ | refine sBa tb ?_); try (first | refine gl tb ?_ | refine gg tb ?_ | refine ll tb ?_ | refine lg tb ?_))
      refine sBs' tb [labC x] ?_ (hkl := labLen [x])
      intro v5 w5 ho5 hs5 hx5
      have hx05 := hx4.trans hx5
      refine sApp tb (ho4.to hx5) ho5.sli ?_ (h1 := lab1 [x]) (hB := hx05.size)
      intro v6 w6 ho6 hg6
      try (first | refine gl tb ?_ | refine gg tb ?_ | refine ll tb ?_ | refine lg tb ?_); repeat ((first | refine G.condT rfl ?_ | refine G.condF rfl ?_ | refine sFa tb ?_ | refine sLd tb ?_ | refine sLa tb ?_ | refine sLen tb ?_ | refine sFd tb ?_ | refine sBd tb ?_ | refine sBa tb ?_); try (first | refine gl tb ?_ | refine gg tb ?_ | refine ll tb ?_ | refine lg tb ?_))
      refine sAd tb ?_
      try (first | refine gl tb ?_ | refine gg tb ?_ | refine ll tb ?_ | refine lg tb ?_); repeat ((first | refine G.condT rfl ?_ | refine G.condF rfl ?_ | refine sFa tb ?_ | refine sLd tb ?_ | refine sLa tb ?_ | refine sLen tb ?_ | refine sFd tb ?_ | refine sBd tb ?_ | refine sBa tb ?_); try (first | refine gl tb ?_ | refine gg tb ?_ | refine ll tb ?_ | refine lg tb ?_))
      refine G.lp (x := (k, s)) (k + 1, v6) (by repeat (first | exact Sub.nil _ | refine Sub.cons rfl ?_)) ⟨hg6.below _ hx05, by simp only; omega, ?_⟩ (by simp only; omega)
      simp only [hst]
      unfold LO; rw [List.map_append]; exact ho6
    · have hc' : x.1 = name := by simpa using hc
      rw [if_pos hc'] at hst
      try (first | refine gl tb ?_ | refine gg tb ?_ | refine ll tb ?_ | refine lg tb ?_); repeat ((first | refine G.condT rfl ?_ | refine G.condF rfl ?_ | refine sFa tb ?_ | refine sLd tb ?_ | refine sLa tb ?_ | refine sLen tb ?_ | refine sFd tb ?_ | refine sBd tb ?_ | refine sBa tb ?_); try (first | refine gl tb ?_ | refine gg tb ?_ | refine ll tb ?_ | refine lg tb ?_))
      refine sAd tb ?_
      try (first | refine gl tb ?_ | refine gg tb ?_ | refine ll tb ?_ | refine lg tb ?_); repeat ((first | refine G.condT rfl ?_ | refine G.condF rfl ?_ | refine sFa tb ?_ | refine sLd tb ?_ | refine sLa tb ?_ | refine sLen tb ?_ | refine sFd tb ?_ | refine sBd tb ?_ | refine sBa tb ?_); try (first | refine gl tb ?_ | refine gg tb ?_ | refine ll tb ?_ | refine lg tb ?_))
      exact G.lp (x := (k, s)) (k + 1, s) (by repeat (first | exact Sub.nil _ | refine Sub.cons rfl ?_)) ⟨hx4, by simp only; omega, by simp only [hst]; exact ho4⟩ (by simp only; omega)
  · obtain rfl : k = ls.length := by omega
    rw [List.take_length] at ho
    have hso : sortedL (woL ls name) := List.Pairwise.sublist List.filter_sublist hs
    have hrn := rest_len ls name
    have hw : withS ls name value = if value = [] then woL ls name else putL (woL ls name) (name, value) := rfl
    generalize woL ls name = out at ho hso hrn hw
    try (first | refine gl tb ?_ | refine gg tb ?_ | refine ll tb ?_ | refine lg tb ?_); repeat ((first | refine G.condT rfl ?_ | refine G.condF rfl ?_ | refine sFa tb ?_ | refine sLd tb ?_ | refine sLa tb ?_ | refine sLen tb ?_ | refine sFd tb ?_ | refine sBd tb ?_ | refine sBa tb ?_); try (first | refine gl tb ?_ | refine gg tb ?_ | refine ll tb ?_ | refine lg tb ?_))
    first | refine G.condD rfl (fun hc => ?_) (fun hc => ?_) | refine G.condN rfl (fun hc => ?_) (fun hc => ?_) | refine G.cond rfl (fun hc => ?_) (fun hc => ?_)
    · rw [if_pos hc] at hw
      try (first | refine gl tb ?_ | refine gg tb ?_ | refine ll tb ?_ | refine lg tb ?_); repeat ((first | refine G.condT rfl ?_ | refine G.condF rfl ?_ | refine sFa tb ?_ | refine sLd tb ?_ | refine sLa tb ?_ | refine sLen tb ?_ | refine sFd tb ?_ | refine sBd tb ?_ | refine sBa tb ?_); try (first | refine gl tb ?_ | refine gg tb ?_ | refine ll tb ?_ | refine lg tb ?_))
      refine G.ret1 rfl rfl rfl rfl ?_
      rw [hw]; exact ⟨ho, hx2⟩
    · rw [if_neg hc] at hw
      try (first | refine gl tb ?_ | refine gg tb ?_ | refine ll tb ?_ | refine lg tb ?_); repeat ((first | refine G.condT rfl ?_ | refine G.condF rfl ?_ | refine sFa tb ?_ | refine sLd tb ?_ | refine sLa tb ?_ | refine sLen tb ?_ | refine sFd tb ?_ | refine sBd tb ?_ | refine sBa tb ?_); try (first | refine gl tb ?_ | refine gg tb ?_ | refine ll tb ?_ | refine lg tb ?_))
      refine sCall c73 (bsearch_ok s out name w2 ho.sli hso (by omega)) ?_
      rintro _ w3 ⟨b, rfl, hx3⟩
      have hx03 := hx2.trans hx3
      have ho3 := ho.to hx3
      try (first | refine gl tb ?_ | refine gg tb ?_ | refine ll tb ?_ | refine lg tb ?_); repeat ((first | refine G.condT rfl ?_ | refine G.condF rfl ?_ | refine sFa tb ?_ | refine sLd tb ?_ | refine sLa tb ?_ | refine sLen tb ?_ | refine sFd tb ?_ | refine sBd tb ?_ | refine sBa tb ?_); try (first | refine gl tb ?_ | refine gg tb ?_ | refine ll tb ?_ | refine lg tb ?_))
      refine sBs' tb [labC (name, value)] ?_ (hkl := labLen [_])
      intro v4 w4 ho4 hs4 hx4
      have hx04 := hx03.trans hx4
      have hle := lessN_le out name
      refine sCall c76 (insert_ok s v4 (out.map labC) (labC (name, value)) (lessN out name) w.heap.size _ w4 (ho3.to hx4) ho4 (ho3.apart ho4) (by rw [List.length_map]; omega) (by rw [List.length_map]; omega) hx04.size (lab1 out) (lab1 [(name, value)])) ?_
      rintro r w5 ⟨ho5, hg5⟩
      try (first | refine gl tb ?_ | refine gg tb ?_ | refine ll tb ?_ | refine lg tb ?_); repeat ((first | refine G.condT rfl ?_ | refine G.condF rfl ?_ | refine sFa tb ?_ | refine sLd tb ?_ | refine sLa tb ?_ | refine sLen tb ?_ | refine sFd tb ?_ | refine sBd tb ?_ | refine sBa tb ?_); try (first | refine gl tb ?_ | refine gg tb ?_ | refine ll tb ?_ | refine lg tb ?_))
      refine G.ret1 rfl rfl rfl rfl ?_
      rw [putL_at out (name, value)] at ho5
      rw [hw]
      exact ⟨ho5, hg5.below _ hx04⟩

end Go.Proofs.YtmkckngecjpklaaDoor.Lab
end
section
namespace Go.Proofs
open Go.Shelf
theorem Tryd.Builder_Extra_166 : Builder.Extra Tryd.prog Tryd.lays156_ren := Tryd.Builder_Extra_156
end Go.Proofs
end
section
namespace Go.Rx

theorem decodeN_ext {n n' a b c d b' c' d' : Nat} (hk : (Lib.decodeN n a b c d).2 = n) (hv : ¬ Lib.decodeN n a b c d = (65533, 1)) (h : n ≤ n') (hb : 2 ≤ n → b' = b) (hc : 3 ≤ n → c' = c) (hd : 4 ≤ n → d' = d) : Lib.decodeN n' a b' c' d' = Lib.decodeN n a b c d := by
  have h4 := (decodeN_2 n a b c d).2.2.1
  have h1 := (decodeN_2 n a b c d).1
  unfold Lib.decodeN at hk hv ⊢
  by_cases g1 : a < 128
  · rw [if_pos g1, if_pos g1]
  rw [if_neg g1] at hk hv ⊢
  rw [if_neg g1]
  by_cases g2 : a / 32 = 6 ∧ 1 < n ∧ b / 64 = 2
  · rw [if_pos g2] at hk hv ⊢
    by_cases g3 : a % 32 * 64 + b % 64 ≥ 128
    · have := hb (by omega); subst this
      rw [if_pos (show a / 32 = 6 ∧ 1 < n' ∧ b' / 64 = 2 by omega)]
    · rw [if_neg g3] at hv; exact absurd rfl hv
  rw [if_neg g2] at hk hv ⊢
  by_cases g4 : a / 16 = 14 ∧ (1 < n ∧ b / 64 = 2) ∧ 2 < n ∧ c / 64 = 2
  · rw [if_pos g4] at hk hv ⊢
    have := hb (by omega); subst this
    have := hc (by omega); subst this
    rw [if_neg (show ¬ (a / 32 = 6 ∧ 1 < n' ∧ b' / 64 = 2) by omega), if_pos (show a / 16 = 14 ∧ (1 < n' ∧ b' / 64 = 2) ∧ 2 < n' ∧ c' / 64 = 2 by omega)]
  rw [if_neg g4] at hk hv ⊢
  by_cases g5 : a / 8 = 30 ∧ (1 < n ∧ b / 64 = 2) ∧ (2 < n ∧ c / 64 = 2) ∧ 3 < n ∧ d / 64 = 2
  · rw [if_pos g5] at hk hv ⊢
    have := hb (by omega); subst this
    have := hc (by omega); subst this
    have := hd (by omega); subst this
    rw [if_neg (show ¬ (a / 32 = 6 ∧ 1 < n' ∧ b' / 64 = 2) by omega), if_neg (show ¬ (a / 16 = 14 ∧ (1 < n' ∧ b' / 64 = 2) ∧ 2 < n' ∧ c' / 64 = 2) by omega), if_pos (show a / 8 = 30 ∧ (1 < n' ∧ b' / 64 = 2) ∧ (2 < n' ∧ c' / 64 = 2) ∧ 3 < n' ∧ d' / 64 = 2 by omega)]
  rw [if_neg g5] at hv
  exact absurd rfl hv
theorem decodeN_inj {n n' a b c d a' b' c' d' : Nat} (hv : ¬ Lib.decodeN n a b c d = (65533, 1)) (hv' : ¬ Lib.decodeN n' a' b' c' d' = (65533, 1)) (he : (Lib.decodeN n a b c d).1 = (Lib.decodeN n' a' b' c' d').1) :
    (Lib.decodeN n a b c d).2 = (Lib.decodeN n' a' b' c' d').2 ∧ a = a' ∧ (2 ≤ (Lib.decodeN n a b c d).2 → b = b') ∧ (3 ≤ (Lib.decodeN n a b c d).2 → c = c') ∧ (4 ≤ (Lib.decodeN n a b c d).2 → d = d') := by
  have form : ∀ {n a b c d : Nat}, ¬ Lib.decodeN n a b c d = (65533, 1) →
      (a < 128 ∧ Lib.decodeN n a b c d = (a, 1)) ∨ (a / 32 = 6 ∧ b / 64 = 2 ∧ a % 32 * 64 + b % 64 ≥ 128 ∧ Lib.decodeN n a b c d = (a % 32 * 64 + b % 64, 2)) ∨
      (a / 16 = 14 ∧ b / 64 = 2 ∧ c / 64 = 2 ∧ a % 16 * 4096 + b % 64 * 64 + c % 64 ≥ 2048 ∧ Lib.decodeN n a b c d = (a % 16 * 4096 + b % 64 * 64 + c % 64, 3)) ∨
      (a / 8 = 30 ∧ b / 64 = 2 ∧ c / 64 = 2 ∧ d / 64 = 2 ∧ a % 8 * 262144 + b % 64 * 4096 + c % 64 * 64 + d % 64 ≥ 65536 ∧ Lib.decodeN n a b c d = (a % 8 * 262144 + b % 64 * 4096 + c % 64 * 64 + d % 64, 4)) := by
    intro n a b c d h
    unfold Lib.decodeN at h ⊢
    by_cases g1 : a < 128
    · left; exact ⟨g1, if_pos g1⟩
    rw [if_neg g1] at h ⊢
    by_cases g2 : a / 32 = 6 ∧ 1 < n ∧ b / 64 = 2
    · rw [if_pos g2] at h ⊢
      by_cases g3 : a % 32 * 64 + b % 64 ≥ 128
      · right; left; rw [if_pos g3]; exact ⟨g2.1, g2.2.2, g3, rfl⟩
      · rw [if_neg g3] at h; exact absurd rfl h
    rw [if_neg g2] at h ⊢
    by_cases g4 : a / 16 = 14 ∧ (1 < n ∧ b / 64 = 2) ∧ 2 < n ∧ c / 64 = 2
    · rw [if_pos g4] at h ⊢
      split at h
      · rename_i g5
        right; right; left
        rw [if_pos g5]; exact ⟨g4.1, g4.2.1.2, g4.2.2.2, g5.1, rfl⟩
      · exact absurd rfl h
    rw [if_neg g4] at h ⊢
    by_cases g6 : a / 8 = 30 ∧ (1 < n ∧ b / 64 = 2) ∧ (2 < n ∧ c / 64 = 2) ∧ 3 < n ∧ d / 64 = 2
    · rw [if_pos g6] at h ⊢
      split at h
      · rename_i g7
        right; right; right
        rw [if_pos g7]; exact ⟨g6.1, g6.2.1.2, g6.2.2.1.2, g6.2.2.2.2, g7.1, rfl⟩
      · exact absurd rfl h
    rw [if_neg g6] at h
    exact absurd rfl h
  rcases form hv with ⟨h1, e⟩ | ⟨h1, h2, h3, e⟩ | ⟨h1, h2, h3, h4, e⟩ | ⟨h1, h2, h3, h4, h5, e⟩ <;>
  rcases form hv' with ⟨k1, e'⟩ | ⟨k1, k2, k3, e'⟩ | ⟨k1, k2, k3, k4, e'⟩ | ⟨k1, k2, k3, k4, k5, e'⟩ <;>
  rw [e, e'] at he ⊢ <;> simp only at he ⊢ <;> first | (exfalso; omega) | exact ⟨trivial, by omega, fun _ => by omega, fun _ => by omega, fun _ => by omega⟩ | exact ⟨rfl, by omega, fun _ => by omega, fun _ => by omega, fun _ => by omega⟩

/-- bytes c are character r, well written -/
structure Ch (c : List UInt8) (r : Nat) : Prop where
  pos : 0 < c.length
  cd : Rx.dec c 0 = (r, c.length)
  ok : ¬ Rx.dec c 0 = (65533, 1)
inductive Chs : List UInt8 → List Nat → Prop where
  | nil : Chs [] []
  | cons {c rest : List UInt8} {r : Nat} {rs : List Nat} (h : Ch c r) (t : Chs rest rs) : Chs (c ++ rest) (r :: rs)
theorem getD_app2 {A c B : List UInt8} {k : Nat} (hk : k < c.length) : (A ++ (c ++ B)).getD (A.length + k) 0 = c.getD k 0 := by
  rw [getD_right, getD_left hk]
theorem Ch.at_ {c : List UInt8} {r : Nat} (h : Ch c r) (pre post : List UInt8) {p : Nat} (hp : p = pre.length) : Rx.dec (pre ++ (c ++ post)) p = (r, c.length) := by
  subst hp
  have hpos := h.pos
  have hd := h.cd
  have ho := h.ok
  rw [← h.cd]
  have g0 : (pre ++ (c ++ post)).getD pre.length 0 = c.getD 0 0 := by have := getD_app2 (A := pre) (B := post) hpos; rwa [Nat.add_zero] at this
  have gk : ∀ k, k < c.length → (pre ++ (c ++ post)).getD (pre.length + k) 0 = c.getD k 0 := fun k hk => getD_app2 hk
  unfold Rx.dec at hd ho ⊢
  rw [g0]
  rw [Nat.sub_zero, Nat.zero_add, Nat.zero_add, Nat.zero_add] at hd ho ⊢
  have hl : (pre ++ (c ++ post)).length - pre.length = c.length + post.length := by simp only [List.length_append]; omega
  rw [hl]
  exact decodeN_ext (by rw [hd]) ho (by omega) (fun k => by rw [gk 1 (by omega)]) (fun k => by rw [gk 2 (by omega)]) (fun k => by rw [gk 3 (by omega)])
theorem list_ext {c c' : List UInt8} (hl : c.length = c'.length) (h : ∀ k, k < c.length → c.getD k 0 = c'.getD k 0) : c = c' := by
  refine List.ext_getElem hl fun i h1 h2 => ?_
  have := h i h1
  rw [List.getD_eq_getElem?_getD, List.getD_eq_getElem?_getD, List.getElem?_eq_getElem h1, List.getElem?_eq_getElem h2] at this
  exact this
theorem Ch.inj {c c' : List UInt8} {r : Nat} (h : Ch c r) (h' : Ch c' r) : c = c' := by
  have hd := h.cd
  have ho := h.ok
  have hd' := h'.cd
  have ho' := h'.ok
  unfold Rx.dec at hd ho hd' ho'
  rw [Nat.sub_zero, Nat.zero_add, Nat.zero_add, Nat.zero_add] at hd ho hd' ho'
  obtain ⟨k1, k2, k3, k4, k5⟩ := decodeN_inj ho ho' (by rw [hd, hd'])
  rw [hd] at k1 k3 k4 k5
  rw [hd'] at k1
  simp only at k1 k3 k4 k5
  have h4 : c.length ≤ 4 := by
    have := (decodeN_2 c.length (c.getD 0 0).toNat (c.getD 1 0).toNat (c.getD 2 0).toNat (c.getD 3 0).toNat).2.2.1
    rw [hd] at this; exact this
  refine list_ext k1 fun k hk => UInt8.toNat_inj.1 ?_
  rcases (show k = 0 ∨ k = 1 ∨ k = 2 ∨ k = 3 by omega) with rfl | rfl | rfl | rfl
  · exact k2
  · exact k3 (by omega)
  · exact k4 (by omega)
  · exact k5 (by omega)
theorem Chs.inj {x y : List UInt8} {rs : List Nat} (h : Chs x rs) (h' : Chs y rs) : x = y := by
  induction h generalizing y with
  | nil => cases h'; rfl
  | cons hc _ ih => cases h' with | cons hc' ht' => rw [hc.inj hc', ih ht']
theorem Chs.len {s : List UInt8} {rs : List Nat} (h : Chs s rs) : rs.length ≤ s.length := by
  induction h with
  | nil => exact Nat.le_refl _
  | cons hc _ ih => have := hc.pos; simp only [List.length_cons, List.length_append]; omega
end Go.Rx
end
section
open Go Go.Vg Go.RowKit Go.Proofs Go.Proofs.YtmkckngecjpklaaDoor
namespace Go.Proofs.YtmkckngecjpklaaDoor
set_option linter.unusedSimpArgs false

abbrev Bld (w : World) (B b : Nat) (l : List UInt8) : Prop := Lib.IsBuilder 116 5 B b (Lib.byteCells l) w
theorem wbyte_ok (B b : Nat) (l : List UInt8) (c : UInt8) (w : World) (h : Bld w B b l) (hl : l.length + 1 ≤ 140737488355328) (hB : B ≤ w.heap.size) :
    Ret Tryd.prog 59 ⟨[ptr b, U c]⟩ w fun r w' => r = .nilIface ∧ Bld w' B b (l ++ [c]) ∧ Below B w w' :=
  Calls.mono (Any.Builder_WriteByte Tryd.lays167 Tryd.Builder_Extra_167 B b (Lib.byteCells l) c.toNat w h (by rw [Lib.byteCells_length]; exact hl) hB) fun _ _ ⟨he, h1, h2⟩ =>
    ⟨_, he, rfl, .inr (by rw [Lib.byteCells_append]; exact h1), h2⟩
theorem wstr_ok (B b : Nat) (l s : List UInt8) (w : World) (h : Bld w B b l) (hl : l.length + s.length ≤ 140737488355328) (hB : B ≤ w.heap.size) :
    Ret Tryd.prog 62 ⟨[ptr b, S s]⟩ w fun _ w' => Bld w' B b (l ++ s) ∧ Below B w w' :=
  Calls.mono (Any.Builder_WriteString Tryd.lays166 Tryd.Builder_Extra_166 B b (Lib.byteCells l) ⟨⟨s⟩⟩ w h (by rw [Lib.byteCells_length]; exact hl) hB) fun _ _ ⟨he, h1, h2⟩ =>
    ⟨_, he, .inr (by rw [Lib.byteCells_append]; exact h1), h2⟩
theorem bstr_ok (B b : Nat) (l : List UInt8) (w : World) (h : Bld w B b l) (hB : B ≤ w.heap.size) :
    Ret Tryd.prog 63 ⟨[ptr b]⟩ w fun r w' => r = S l ∧ Below B w w' :=
  Calls.mono (Any.Builder_String_any Tryd.lays169 Tryd.Builder_Extra_169 B b l w h hB) fun _ _ ⟨he, h2⟩ => ⟨_, he, rfl, h2⟩

theorem Bld.ext {w w' : World} {B b : Nat} {l : List UInt8} (h : Bld w B b l) (hx : Ext w w') : Bld w' B b l := by
  have key : ∀ p, Lib.BuilderAt 116 5 B b p (Lib.byteCells l) w → Lib.BuilderAt 116 5 B b p (Lib.byteCells l) w' := by
    rintro p ⟨hB, v, hb, ⟨hl, hr⟩, hn⟩
    refine ⟨hB, v, by rw [hx.block b (Array.getElem?_eq_some_iff.1 hb).1]; exact hb, ⟨hl, ?_⟩, hn⟩
    rcases hr with h | ⟨g, cap, cur, h1, h2, h3, h4⟩
    · exact .inl h
    · exact .inr ⟨g, cap, cur, h1, h2, by rw [hx.block g (Array.getElem?_eq_some_iff.1 h3).1]; exact h3, h4⟩
  rcases h with h | h
  · exact .inl (key _ h)
  · exact .inr (key _ h)

/-- P2.4: well written texts -/
def validN (s : List UInt8) : Nat → Nat → Bool
  | 0, _ => true
  | n + 1, i => if i < s.length then (if u8len s i = 0 then false else validN s n (i + u8len s i)) else true
def validB (s : List UInt8) : Bool := validN s (s.length + 1) 0
theorem valid_ok (s : List UInt8) (w : World) (hs : s.length ≤ 1000) :
    Ret Tryd.prog 66 ⟨[S s]⟩ w fun r w' => r = .bool (validB s) ∧ Ext w w' := by
  refine ret_of_G Tryd.func66 rfl Tryd.ntmps66 rfl ?_
  simp only [argEnv]
  try (first | refine gl tb ?_ | refine gg tb ?_ | refine ll tb ?_ | refine lg tb ?_); repeat ((first | refine G.condT rfl ?_ | refine G.condF rfl ?_ | refine sFa tb ?_ | refine sLd tb ?_ | refine sLa tb ?_ | refine sLen tb ?_ | refine sFd tb ?_ | refine sBd tb ?_ | refine sBa tb ?_); try (first | refine gl tb ?_ | refine gg tb ?_ | refine ll tb ?_ | refine lg tb ?_))
  refine (G.loop (fun x : Nat × Nat => [(0, none, S s), (3, none, .int .i64 x.2)]) (fun x W => Ext w W ∧ x.2 ≤ s.length ∧ s.length - x.2 < x.1 ∧ validN s x.1 x.2 = validB s) (fun x => x.1) (s.length + 1, 0) (by repeat (first | exact Sub.nil _ | refine Sub.cons rfl ?_)) ⟨Ext.refl _, Nat.zero_le _, by simp only; omega, rfl⟩ ?_)
  rintro ⟨n, i⟩ W ⟨hx, hi, hn, hL⟩
  simp only at hi hn hL
  show G _ _ [(0, none, S s), (3, none, .int .i64 i)] W
  obtain ⟨n, rfl⟩ : ∃ m, n = m + 1 := ⟨n - 1, by omega⟩
  rw [validN] at hL
  try (first | refine gl tb ?_ | refine gg tb ?_ | refine ll tb ?_ | refine lg tb ?_); repeat ((first | refine G.condT rfl ?_ | refine G.condF rfl ?_ | refine sFa tb ?_ | refine sLd tb ?_ | refine sLa tb ?_ | refine sLen tb ?_ | refine sFd tb ?_ | refine sBd tb ?_ | refine sBa tb ?_); try (first | refine gl tb ?_ | refine gg tb ?_ | refine ll tb ?_ | refine lg tb ?_))
  first | refine G.condD rfl (fun hc => ?_) (fun hc => ?_) | refine G.condN rfl (fun hc => ?_) (fun hc => ?_) | refine G.cond rfl (fun hc => ?_) (fun hc => ?_)
  · have hlt : i < s.length := by omega
    rw [if_pos hlt] at hL
    have hle := u8len_le s i hi
    try (first | refine gl tb ?_ | refine gg tb ?_ | refine ll tb ?_ | refine lg tb ?_); repeat ((first | refine G.condT rfl ?_ | refine G.condF rfl ?_ | refine sFa tb ?_ | refine sLd tb ?_ | refine sLa tb ?_ | refine sLen tb ?_ | refine sFd tb ?_ | refine sBd tb ?_ | refine sBa tb ?_); try (first | refine gl tb ?_ | refine gg tb ?_ | refine ll tb ?_ | refine lg tb ?_))
    refine sCall c80 (utf8_ok s i W (by omega) hlt) ?_
    rintro _ _ ⟨rfl, rfl⟩
    generalize u8len s i = u at hL hle
    try (first | refine gl tb ?_ | refine gg tb ?_ | refine ll tb ?_ | refine lg tb ?_); repeat ((first | refine G.condT rfl ?_ | refine G.condF rfl ?_ | refine sFa tb ?_ | refine sLd tb ?_ | refine sLa tb ?_ | refine sLen tb ?_ | refine sFd tb ?_ | refine sBd tb ?_ | refine sBa tb ?_); try (first | refine gl tb ?_ | refine gg tb ?_ | refine ll tb ?_ | refine lg tb ?_))
    first | refine G.condD rfl (fun hc => ?_) (fun hc => ?_) | refine G.condN rfl (fun hc => ?_) (fun hc => ?_) | refine G.cond rfl (fun hc => ?_) (fun hc => ?_)
    · rw [if_pos (show u = 0 by omega)] at hL
      try (first | refine gl tb ?_ | refine gg tb ?_ | refine ll tb ?_ | refine lg tb ?_); repeat ((first | refine G.condT rfl ?_ | refine G.condF rfl ?_ | refine sFa tb ?_ | refine sLd tb ?_ | refine sLa tb ?_ | refine sLen tb ?_ | refine sFd tb ?_ | refine sBd tb ?_ | refine sBa tb ?_); try (first | refine gl tb ?_ | refine gg tb ?_ | refine ll tb ?_ | refine lg tb ?_))
      refine G.ret1 rfl rfl rfl rfl ?_
      exact ⟨by rw [← hL], hx⟩
    · rw [if_neg (show ¬ u = 0 by omega)] at hL
      try (first | refine gl tb ?_ | refine gg tb ?_ | refine ll tb ?_ | refine lg tb ?_); repeat ((first | refine G.condT rfl ?_ | refine G.condF rfl ?_ | refine sFa tb ?_ | refine sLd tb ?_ | refine sLa tb ?_ | refine sLen tb ?_ | refine sFd tb ?_ | refine sBd tb ?_ | refine sBa tb ?_); try (first | refine gl tb ?_ | refine gg tb ?_ | refine ll tb ?_ | refine lg tb ?_))
      refine sAd tb (r := ((i + u : Nat) : Int)) ?_
      try (first | refine gl tb ?_ | refine gg tb ?_ | refine ll tb ?_ | refine lg tb ?_); repeat ((first | refine G.condT rfl ?_ | refine G.condF rfl ?_ | refine sFa tb ?_ | refine sLd tb ?_ | refine sLa tb ?_ | refine sLen tb ?_ | refine sFd tb ?_ | refine sBd tb ?_ | refine sBa tb ?_); try (first | refine gl tb ?_ | refine gg tb ?_ | refine ll tb ?_ | refine lg tb ?_))
      exact G.lp (x := (n + 1, i)) (n, i + u) (by repeat (first | exact Sub.nil _ | refine Sub.cons rfl ?_)) ⟨hx, by simp only; omega, by simp only; omega, hL⟩ (by simp only; omega)
  · rw [if_neg (show ¬ i < s.length by omega)] at hL
    try (first | refine gl tb ?_ | refine gg tb ?_ | refine ll tb ?_ | refine lg tb ?_); repeat ((first | refine G.condT rfl ?_ | refine G.condF rfl ?_ | refine sFa tb ?_ | refine sLd tb ?_ | refine sLa tb ?_ | refine sLen tb ?_ | refine sFd tb ?_ | refine sBd tb ?_ | refine sBa tb ?_); try (first | refine gl tb ?_ | refine gg tb ?_ | refine ll tb ?_ | refine lg tb ?_))
    refine G.ret1 rfl rfl rfl rfl ?_
    exact ⟨by rw [← hL], hx⟩
end Go.Proofs.YtmkckngecjpklaaDoor
end
section
namespace Go.Rx
/-- how many digits a text begins with, from place i on -/
def digN (s : List UInt8) : Nat → Nat → Nat
  | 0, i => i
  | n + 1, i => if i < s.length ∧ 48 ≤ (s.getD i 0).toNat ∧ (s.getD i 0).toNat ≤ 57 then digN s n (i + 1) else i
def digitsP (s : List UInt8) : Nat := digN s s.length 0
/-- the number of so many digits from place 1 on -/
def numN (s : List UInt8) : Nat → Nat
  | 0 => 0
  | n + 1 => 10 * numN s n + ((s.getD (1 + n) 0).toNat - 48)
def namedP (s : List UInt8) : Nat × Nat :=
  if 0 < s.length ∧ 49 ≤ (s.getD 0 0).toNat ∧ (s.getD 0 0).toNat ≤ 57 then ((s.getD 0 0).toNat - 48, 1)
  else if ¬ isB s 0 123 = true then (0, 0)
  else
    let n := digitsP (s.drop 1)
    if n < 1 ∨ 3 < n ∨ ¬ isB s (1 + n) 125 = true ∨ (1 < n ∧ (s.getD 1 0).toNat = 48) then (0, 0) else (numN s n, n + 2)
/-- a group's text -/
def grpP (x : List UInt8) (g : List Int) (k : Nat) : List UInt8 :=
  if 2 * k + 1 < g.length then (if 0 ≤ g.getD (2 * k) 0 ∧ g.getD (2 * k) 0 ≤ g.getD (2 * k + 1) 0 ∧ g.getD (2 * k + 1) 0 ≤ x.length then (x.drop (g.getD (2 * k) 0).toNat).take ((g.getD (2 * k + 1) 0).toNat - (g.getD (2 * k) 0).toNat) else []) else []
def expL (t x : List UInt8) (g : List Int) : Nat → Nat → List UInt8 → List UInt8
  | 0, _, out => out
  | n + 1, i, out =>
    if i < t.length then
      (if (t.getD i 0).toNat ≠ 36 then expL t x g n (i + 1) (out ++ [t.getD i 0])
       else if isB t (i + 1) 36 = true then expL t x g n (i + 2) (out ++ [36])
       else if (namedP (t.drop (i + 1))).2 = 0 then expL t x g n (i + 1) (out ++ [36])
       else expL t x g n (i + 1 + (namedP (t.drop (i + 1))).2) (out ++ grpP x g (namedP (t.drop (i + 1))).1))
    else out
def expandP (t x : List UInt8) (g : List Int) : List UInt8 := expL t x g (t.length + 1) 0 []
theorem digN_le (s : List UInt8) : ∀ n i, i ≤ s.length → i ≤ digN s n i ∧ digN s n i ≤ s.length
  | 0, i, h => ⟨Nat.le_refl _, h⟩
  | n + 1, i, h => by
    rw [digN]
    split
    · have := digN_le s n (i + 1) (by omega)
      exact ⟨by omega, this.2⟩
    · exact ⟨Nat.le_refl _, h⟩
theorem numN_lt (s : List UInt8) : ∀ n, n ≤ 3 → (∀ k, k < n → (s.getD (1 + k) 0).toNat ≤ 57) → numN s n + 1 ≤ 10 ^ n
  | 0, _, _ => by simp [numN]
  | n + 1, h, hd => by
    have h1 := numN_lt s n (by omega) fun k hk => hd k (by omega)
    have h2 := hd n (by omega)
    rw [numN, Nat.pow_succ]
    omega
theorem digN_dig (s : List UInt8) : ∀ n i k, i ≤ k → k < digN s n i → (s.getD k 0).toNat ≤ 57 ∧ 48 ≤ (s.getD k 0).toNat
  | 0, i, k, h1, h2 => by simp only [digN] at h2; omega
  | n + 1, i, k, h1, h2 => by
    rw [digN] at h2
    split at h2
    · rename_i hc
      by_cases he : k = i
      · subst he; exact ⟨hc.2.2, hc.2.1⟩
      · exact digN_dig s n (i + 1) k (by omega) h2
    · omega
theorem namedP_le (s : List UInt8) : (namedP s).1 ≤ 999 ∧ (namedP s).2 ≤ s.length := by
  unfold namedP
  split
  · rename_i h; exact ⟨by simp only; omega, by simp only; omega⟩
  · split
    · exact ⟨Nat.zero_le _, Nat.zero_le _⟩
    · simp only
      split
      · exact ⟨Nat.zero_le _, Nat.zero_le _⟩
      · rename_i h
        have h125 : isB s (1 + digitsP (s.drop 1)) 125 = true := Decidable.byContradiction fun hc => h (.inr (.inr (.inl hc)))
        have hlt : 1 + digitsP (s.drop 1) < s.length := by
          unfold isB at h125
          simp only [Bool.and_eq_true, decide_eq_true_eq] at h125
          exact h125.1
        have hd := numN_lt s (digitsP (s.drop 1)) (by omega) fun k hk => by
          have := (digN_dig (s.drop 1) _ 0 k (Nat.zero_le _) hk).1
          rwa [List.getD_eq_getElem?_getD, List.getElem?_drop, ← List.getD_eq_getElem?_getD] at this
        have h3 : digitsP (s.drop 1) ≤ 3 := by omega
        have : 10 ^ digitsP (s.drop 1) ≤ 10 ^ 3 := Nat.pow_le_pow_right (by omega) h3
        exact ⟨by simp only; omega, by simp only; omega⟩
theorem grpP_len (x : List UInt8) (g : List Int) (k : Nat) : (grpP x g k).length ≤ x.length := by
  unfold grpP
  split
  · split
    · rw [List.length_take, List.length_drop]; omega
    · simp
  · simp
end Go.Rx
end
