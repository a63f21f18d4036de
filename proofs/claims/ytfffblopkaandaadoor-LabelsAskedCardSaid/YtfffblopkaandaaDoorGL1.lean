/- labels: names, walked. -/
import Derived.Test.YtfffblopkaandaaDoorLTb
open Go Go.Vg Go.RowKit Go.Proofs Go.Proofs.YtfffblopkaandaaDoor
namespace Go.Proofs.YtfffblopkaandaaDoor
set_option linter.unusedSimpArgs false

/-- a letter or an underscore -/
def lett (c : UInt8) : Bool := decide ((97 : Int) ≤ c.toNat) && decide ((c.toNat : Int) ≤ 122) || decide ((65 : Int) ≤ c.toNat) && decide ((c.toNat : Int) ≤ 90) || decide ((c.toNat : Int) = 95)
def digitC (c : UInt8) : Bool := decide ((48 : Int) ≤ c.toNat) && decide ((c.toNat : Int) ≤ 57)
def namedC (colons : Bool) (i : Nat) (c : UInt8) : Bool := lett c || decide ((c.toNat : Int) = 58) && colons || digitC c && decide ((0 : Int) < i)
def namedTo (colons : Bool) (s : List UInt8) (n : Nat) : Prop := ∀ i, i < n → namedC colons i (s.getD i 0) = true
instance (colons : Bool) (s : List UInt8) (n : Nat) : Decidable (namedTo colons s n) := by unfold namedTo; infer_instance
def namedB (colons : Bool) (s : List UInt8) : Bool := decide (namedTo colons s s.length) && (!decide (s = []) && decide ((s.length : Int) ≤ 1024))

theorem namedTo_succ {colons : Bool} {s : List UInt8} {n : Nat} (h : namedTo colons s n) (hc : namedC colons n (s.getD n 0) = true) : namedTo colons s (n + 1) := by
  intro i hi
  by_cases e : i = n
  · subst e; exact hc
  · exact h i (by omega)

theorem namedB_no {colons : Bool} {s : List UInt8} {n : Nat} (hn : n < s.length) (hc : namedC colons n (s.getD n 0) = false) : namedB colons s = false := by
  have : ¬ namedTo colons s s.length := fun h => by rw [h n hn] at hc; cases hc
  simp [namedB, this]
theorem namedB_end {colons : Bool} {s : List UInt8} (h : namedTo colons s s.length) : namedB colons s = (!decide (s = []) && decide ((s.length : Int) ≤ 1024)) := by
  simp [namedB, h]

theorem named_ok (s : List UInt8) (b : Bool) (w : World) (hs : s.length ≤ 9223372036854775807) :
    Ret Tryd.prog 62 ⟨[S s, .bool b]⟩ w fun v w' => v = .bool (namedB b s) ∧ w' = w := by
  refine ret_of_G Tryd.func62 rfl Tryd.ntmps62 rfl ?_
  simp only [argEnv]
  try (first | refine gl tb ?_ | refine gg tb ?_ | refine ll tb ?_ | refine lg tb ?_); repeat ((first | refine G.condT rfl ?_ | refine G.condF rfl ?_); try (first | refine gl tb ?_ | refine gg tb ?_ | refine ll tb ?_ | refine lg tb ?_))
  refine (G.loop (fun k : Nat => [(0, none, S s), (1, none, .bool b), (8, none, .int .i64 s.length), (9, none, .int .i64 k)]) (fun k w' => w' = w ∧ k ≤ s.length ∧ namedTo b s k) (fun k => s.length - k) 0 (by repeat (first | exact Sub.nil _ | refine Sub.cons rfl ?_)) ⟨rfl, by omega, fun i hi => by omega⟩ ?_)
  rintro k w ⟨rfl, hk, hto⟩
  try (first | refine gl tb ?_ | refine gg tb ?_ | refine ll tb ?_ | refine lg tb ?_); repeat ((first | refine G.condT rfl ?_ | refine G.condF rfl ?_); try (first | refine gl tb ?_ | refine gg tb ?_ | refine ll tb ?_ | refine lg tb ?_))
  first | refine G.condD rfl (fun hc => ?_) (fun hc => ?_) | refine G.condN rfl (fun hc => ?_) (fun hc => ?_) | refine G.cond rfl (fun hc => ?_) (fun hc => ?_)
  · have hlt : k < s.length := by omega
    try (first | refine gl tb ?_ | refine gg tb ?_ | refine ll tb ?_ | refine lg tb ?_); repeat ((first | refine G.condT rfl ?_ | refine G.condF rfl ?_); try (first | refine gl tb ?_ | refine gg tb ?_ | refine ll tb ?_ | refine lg tb ?_))
    refine GL.cons (Step.indexS tb k rfl (Op1.of rfl (by first | exact fun _ => rfl | exact fun h => h | exact fun h => bL h | exact fun h => bL (bL h) | exact fun h => bL (bL (bL h)))) (Op1.of rfl (by first | exact fun _ => rfl | exact fun h => h | exact fun h => bL h | exact fun h => bL (bL h) | exact fun h => bL (bL (bL h)))) rfl (fun _ => ⟨by omega, by omega⟩) rfl ?_)
    try (first | refine gl tb ?_ | refine gg tb ?_ | refine ll tb ?_ | refine lg tb ?_); repeat ((first | refine G.condT rfl ?_ | refine G.condF rfl ?_); try (first | refine gl tb ?_ | refine gg tb ?_ | refine ll tb ?_ | refine lg tb ?_))
    refine G.sub (e' := [(15, none, .bool (lett (s.getD k 0))), (6, none, U (s.getD k 0)), (5, none, .int .i64 k), (0, none, S s), (1, none, .bool b), (8, none, .int .i64 s.length), (9, none, .int .i64 k)]) (by repeat (first | exact Sub.nil _ | refine Sub.cons rfl ?_)) ?_
    have next : namedC b k (s.getD k 0) = true → ∃ x', namedTo b s x' ∧ x' = k + 1 := fun h => ⟨k + 1, namedTo_succ hto h, rfl⟩
    first | refine G.condD rfl (fun hc => ?_) (fun hc => ?_) | refine G.condN rfl (fun hc => ?_) (fun hc => ?_) | refine G.cond rfl (fun hc => ?_) (fun hc => ?_)
    · try (first | refine gl tb ?_ | refine gg tb ?_ | refine ll tb ?_ | refine lg tb ?_); repeat ((first | refine G.condT rfl ?_ | refine G.condF rfl ?_); try (first | refine gl tb ?_ | refine gg tb ?_ | refine ll tb ?_ | refine lg tb ?_))
      refine GL.cons (Step.arith rfl (Op1.of rfl (by first | exact fun _ => rfl | exact fun h => h | exact fun h => bL h | exact fun h => bL (bL h) | exact fun h => bL (bL (bL h)))) (Op1.of rfl (by first | exact fun _ => rfl | exact fun h => h | exact fun h => bL h | exact fun h => bL (bL h) | exact fun h => bL (bL (bL h)))) (wrap_i64 (by omega) (by omega)) rfl ?_)
      try (first | refine gl tb ?_ | refine gg tb ?_ | refine ll tb ?_ | refine lg tb ?_); repeat ((first | refine G.condT rfl ?_ | refine G.condF rfl ?_); try (first | refine gl tb ?_ | refine gg tb ?_ | refine ll tb ?_ | refine lg tb ?_))
      refine G.lp (k + 1) (by repeat (first | exact Sub.nil _ | refine Sub.cons rfl ?_)) ⟨rfl, by omega, namedTo_succ hto (by simp only [namedC, hc]; simp)⟩ (by omega)
    · try (first | refine gl tb ?_ | refine gg tb ?_ | refine ll tb ?_ | refine lg tb ?_); repeat ((first | refine G.condT rfl ?_ | refine G.condF rfl ?_); try (first | refine gl tb ?_ | refine gg tb ?_ | refine ll tb ?_ | refine lg tb ?_))
      first | refine G.condD rfl (fun hc => ?_) (fun hc => ?_) | refine G.condN rfl (fun hc => ?_) (fun hc => ?_) | refine G.cond rfl (fun hc => ?_) (fun hc => ?_)
      · try (first | refine gl tb ?_ | refine gg tb ?_ | refine ll tb ?_ | refine lg tb ?_); repeat ((first | refine G.condT rfl ?_ | refine G.condF rfl ?_); try (first | refine gl tb ?_ | refine gg tb ?_ | refine ll tb ?_ | refine lg tb ?_))
        refine GL.cons (Step.arith rfl (Op1.of rfl (by first | exact fun _ => rfl | exact fun h => h | exact fun h => bL h | exact fun h => bL (bL h) | exact fun h => bL (bL (bL h)))) (Op1.of rfl (by first | exact fun _ => rfl | exact fun h => h | exact fun h => bL h | exact fun h => bL (bL h) | exact fun h => bL (bL (bL h)))) (wrap_i64 (by omega) (by omega)) rfl ?_)
        try (first | refine gl tb ?_ | refine gg tb ?_ | refine ll tb ?_ | refine lg tb ?_); repeat ((first | refine G.condT rfl ?_ | refine G.condF rfl ?_); try (first | refine gl tb ?_ | refine gg tb ?_ | refine ll tb ?_ | refine lg tb ?_))
        refine G.lp (k + 1) (by repeat (first | exact Sub.nil _ | refine Sub.cons rfl ?_)) ⟨rfl, by omega, namedTo_succ hto (by simp only [namedC, hc]; simp)⟩ (by omega)
      · try (first | refine gl tb ?_ | refine gg tb ?_ | refine ll tb ?_ | refine lg tb ?_); repeat ((first | refine G.condT rfl ?_ | refine G.condF rfl ?_); try (first | refine gl tb ?_ | refine gg tb ?_ | refine ll tb ?_ | refine lg tb ?_))
        have hc2 := hc
        first | refine G.condD rfl (fun hc => ?_) (fun hc => ?_) | refine G.condN rfl (fun hc => ?_) (fun hc => ?_) | refine G.cond rfl (fun hc => ?_) (fun hc => ?_)
        · try (first | refine gl tb ?_ | refine gg tb ?_ | refine ll tb ?_ | refine lg tb ?_); repeat ((first | refine G.condT rfl ?_ | refine G.condF rfl ?_); try (first | refine gl tb ?_ | refine gg tb ?_ | refine ll tb ?_ | refine lg tb ?_))
          refine GL.cons (Step.arith rfl (Op1.of rfl (by first | exact fun _ => rfl | exact fun h => h | exact fun h => bL h | exact fun h => bL (bL h) | exact fun h => bL (bL (bL h)))) (Op1.of rfl (by first | exact fun _ => rfl | exact fun h => h | exact fun h => bL h | exact fun h => bL (bL h) | exact fun h => bL (bL (bL h)))) (wrap_i64 (by omega) (by omega)) rfl ?_)
          try (first | refine gl tb ?_ | refine gg tb ?_ | refine ll tb ?_ | refine lg tb ?_); repeat ((first | refine G.condT rfl ?_ | refine G.condF rfl ?_); try (first | refine gl tb ?_ | refine gg tb ?_ | refine ll tb ?_ | refine lg tb ?_))
          refine G.lp (k + 1) (by repeat (first | exact Sub.nil _ | refine Sub.cons rfl ?_)) ⟨rfl, by omega, namedTo_succ hto (by simp only [namedC, digitC, hc]; simp)⟩ (by omega)
        · try (first | refine gl tb ?_ | refine gg tb ?_ | refine ll tb ?_ | refine lg tb ?_); repeat ((first | refine G.condT rfl ?_ | refine G.condF rfl ?_); try (first | refine gl tb ?_ | refine gg tb ?_ | refine ll tb ?_ | refine lg tb ?_))
          refine G.ret1 rfl rfl rfl rfl ?_
          refine ⟨?_, rfl⟩
          rw [namedB_no hlt (by simp only [namedC, digitC, *]; rfl)]
  · try (first | refine gl tb ?_ | refine gg tb ?_ | refine ll tb ?_ | refine lg tb ?_); repeat ((first | refine G.condT rfl ?_ | refine G.condF rfl ?_); try (first | refine gl tb ?_ | refine gg tb ?_ | refine ll tb ?_ | refine lg tb ?_))
    refine G.ret1 rfl rfl rfl rfl ?_
    obtain rfl : k = s.length := by omega
    exact ⟨by rw [namedB_end hto], rfl⟩

def wordC (colons : Bool) (i : Nat) (c : UInt8) : Bool := lett c || digitC c && decide ((0 : Int) < i) || decide ((c.toNat : Int) = 58) && colons
theorem wordC_eq (colons : Bool) (i : Nat) (c : UInt8) : wordC colons i c = namedC colons i c := by
  unfold wordC namedC
  cases lett c <;> cases digitC c <;> cases (decide ((0 : Int) < i)) <;> cases (decide ((c.toNat : Int) = 58)) <;> cases colons <;> rfl
theorem word_ok (s : List UInt8) (b : Bool) (w : World) (hs : s.length ≤ 9223372036854775807) :
    Ret Tryd.prog 63 ⟨[S s, .bool b]⟩ w fun v w' => v = .bool (namedB b s) ∧ w' = w := by
  refine ret_of_G Tryd.func63 rfl Tryd.ntmps63 rfl ?_
  simp only [argEnv]
  try (first | refine gl tb ?_ | refine gg tb ?_ | refine ll tb ?_ | refine lg tb ?_); repeat ((first | refine G.condT rfl ?_ | refine G.condF rfl ?_); try (first | refine gl tb ?_ | refine gg tb ?_ | refine ll tb ?_ | refine lg tb ?_))
  refine (G.loop (fun k : Nat => [(0, none, S s), (1, none, .bool b), (5, none, .int .i64 k)]) (fun k w' => w' = w ∧ k ≤ s.length ∧ namedTo b s k) (fun k => s.length - k) 0 (by repeat (first | exact Sub.nil _ | refine Sub.cons rfl ?_)) ⟨rfl, by omega, fun i hi => by omega⟩ ?_)
  rintro k w ⟨rfl, hk, hto⟩
  try (first | refine gl tb ?_ | refine gg tb ?_ | refine ll tb ?_ | refine lg tb ?_); repeat ((first | refine G.condT rfl ?_ | refine G.condF rfl ?_); try (first | refine gl tb ?_ | refine gg tb ?_ | refine ll tb ?_ | refine lg tb ?_))
  first | refine G.condD rfl (fun hc => ?_) (fun hc => ?_) | refine G.condN rfl (fun hc => ?_) (fun hc => ?_) | refine G.cond rfl (fun hc => ?_) (fun hc => ?_)
  · have hlt : k < s.length := by omega
    try (first | refine gl tb ?_ | refine gg tb ?_ | refine ll tb ?_ | refine lg tb ?_); repeat ((first | refine G.condT rfl ?_ | refine G.condF rfl ?_); try (first | refine gl tb ?_ | refine gg tb ?_ | refine ll tb ?_ | refine lg tb ?_))
    refine GL.cons (Step.indexS tb k rfl (Op1.of rfl (by first | exact fun _ => rfl | exact fun h => h | exact fun h => bL h | exact fun h => bL (bL h) | exact fun h => bL (bL (bL h)))) (Op1.of rfl (by first | exact fun _ => rfl | exact fun h => h | exact fun h => bL h | exact fun h => bL (bL h) | exact fun h => bL (bL (bL h)))) rfl (fun _ => ⟨by omega, by omega⟩) rfl ?_)
    try (first | refine gl tb ?_ | refine gg tb ?_ | refine ll tb ?_ | refine lg tb ?_); repeat ((first | refine G.condT rfl ?_ | refine G.condF rfl ?_); try (first | refine gl tb ?_ | refine gg tb ?_ | refine ll tb ?_ | refine lg tb ?_))
    refine G.sub (e' := [(55, none, .bool (!wordC b k (s.getD k 0))), (0, none, S s), (0 + 1, none, .bool b), (5, none, .int .i64 k)]) (by repeat (first | exact Sub.nil _ | refine Sub.cons rfl ?_)) ?_
    rw [wordC_eq]
    first | refine G.condD rfl (fun hc => ?_) (fun hc => ?_) | refine G.condN rfl (fun hc => ?_) (fun hc => ?_) | refine G.cond rfl (fun hc => ?_) (fun hc => ?_)
    · try (first | refine gl tb ?_ | refine gg tb ?_ | refine ll tb ?_ | refine lg tb ?_); repeat ((first | refine G.condT rfl ?_ | refine G.condF rfl ?_); try (first | refine gl tb ?_ | refine gg tb ?_ | refine ll tb ?_ | refine lg tb ?_))
      refine G.ret1 rfl rfl rfl rfl ?_
      refine ⟨?_, rfl⟩
      rw [namedB_no hlt (by simpa using hc)]
    · try (first | refine gl tb ?_ | refine gg tb ?_ | refine ll tb ?_ | refine lg tb ?_); repeat ((first | refine G.condT rfl ?_ | refine G.condF rfl ?_); try (first | refine gl tb ?_ | refine gg tb ?_ | refine ll tb ?_ | refine lg tb ?_))
      refine GL.cons (Step.arith rfl (Op1.of rfl (by first | exact fun _ => rfl | exact fun h => h | exact fun h => bL h | exact fun h => bL (bL h) | exact fun h => bL (bL (bL h)))) (Op1.of rfl (by first | exact fun _ => rfl | exact fun h => h | exact fun h => bL h | exact fun h => bL (bL h) | exact fun h => bL (bL (bL h)))) (wrap_i64 (by omega) (by omega)) rfl ?_)
      try (first | refine gl tb ?_ | refine gg tb ?_ | refine ll tb ?_ | refine lg tb ?_); repeat ((first | refine G.condT rfl ?_ | refine G.condF rfl ?_); try (first | refine gl tb ?_ | refine gg tb ?_ | refine ll tb ?_ | refine lg tb ?_))
      refine G.lp (k + 1) (by repeat (first | exact Sub.nil _ | refine Sub.cons rfl ?_)) ⟨rfl, by omega, namedTo_succ hto (by simpa using hc)⟩ (by omega)
  · try (first | refine gl tb ?_ | refine gg tb ?_ | refine ll tb ?_ | refine lg tb ?_); repeat ((first | refine G.condT rfl ?_ | refine G.condF rfl ?_); try (first | refine gl tb ?_ | refine gg tb ?_ | refine ll tb ?_ | refine lg tb ?_))
    refine G.ret1 rfl rfl rfl rfl ?_
    obtain rfl : k = s.length := by omega
    refine ⟨?_, rfl⟩
    rw [namedB_end hto]
    cases s with
    | nil => simp
    | cons a r => simp; omega

theorem rightName_ok (s : List UInt8) (w : World) (hs : s.length ≤ 9223372036854775807) :
    Ret Tryd.prog 26 ⟨[S s]⟩ w fun v w' => v = .bool (namedB false s) ∧ Ext w w' := by
  refine ret_of_G Tryd.func26 rfl Tryd.ntmps26 rfl ?_
  simp only [argEnv]
  try (first | refine gl tb ?_ | refine gg tb ?_ | refine ll tb ?_ | refine lg tb ?_); repeat ((first | refine G.condT rfl ?_ | refine G.condF rfl ?_); try (first | refine gl tb ?_ | refine gg tb ?_ | refine ll tb ?_ | refine lg tb ?_))
  refine GL.cons (Step.callF rfl rfl rfl c62 rfl (named_ok s false w hs) ?_)
  rintro _ _ ⟨rfl, rfl⟩
  try (first | refine gl tb ?_ | refine gg tb ?_ | refine ll tb ?_ | refine lg tb ?_); repeat ((first | refine G.condT rfl ?_ | refine G.condF rfl ?_); try (first | refine gl tb ?_ | refine gg tb ?_ | refine ll tb ?_ | refine lg tb ?_))
  refine G.ret1 rfl rfl rfl rfl ?_
  exact ⟨rfl, Ext.refl _⟩
theorem rightMetric_ok (s : List UInt8) (w : World) (hs : s.length ≤ 9223372036854775807) :
    Ret Tryd.prog 28 ⟨[S s]⟩ w fun v w' => v = .bool (namedB true s) ∧ Ext w w' := by
  refine ret_of_G Tryd.func28 rfl Tryd.ntmps28 rfl ?_
  simp only [argEnv]
  try (first | refine gl tb ?_ | refine gg tb ?_ | refine ll tb ?_ | refine lg tb ?_); repeat ((first | refine G.condT rfl ?_ | refine G.condF rfl ?_); try (first | refine gl tb ?_ | refine gg tb ?_ | refine ll tb ?_ | refine lg tb ?_))
  refine GL.cons (Step.callF rfl rfl rfl c62 rfl (named_ok s true w hs) ?_)
  rintro _ _ ⟨rfl, rfl⟩
  try (first | refine gl tb ?_ | refine gg tb ?_ | refine ll tb ?_ | refine lg tb ?_); repeat ((first | refine G.condT rfl ?_ | refine G.condF rfl ?_); try (first | refine gl tb ?_ | refine gg tb ?_ | refine ll tb ?_ | refine lg tb ?_))
  refine G.ret1 rfl rfl rfl rfl ?_
  exact ⟨rfl, Ext.refl _⟩
theorem refName_ok (s : List UInt8) (w : World) (hs : s.length ≤ 9223372036854775807) :
    Ret Tryd.prog 27 ⟨[S s]⟩ w fun v w' => v = .bool (namedB false s) ∧ Ext w w' := by
  refine ret_of_G Tryd.func27 rfl Tryd.ntmps27 rfl ?_
  simp only [argEnv]
  try (first | refine gl tb ?_ | refine gg tb ?_ | refine ll tb ?_ | refine lg tb ?_); repeat ((first | refine G.condT rfl ?_ | refine G.condF rfl ?_); try (first | refine gl tb ?_ | refine gg tb ?_ | refine ll tb ?_ | refine lg tb ?_))
  refine GL.cons (Step.callF rfl rfl rfl c63 rfl (word_ok s false w hs) ?_)
  rintro _ _ ⟨rfl, rfl⟩
  try (first | refine gl tb ?_ | refine gg tb ?_ | refine ll tb ?_ | refine lg tb ?_); repeat ((first | refine G.condT rfl ?_ | refine G.condF rfl ?_); try (first | refine gl tb ?_ | refine gg tb ?_ | refine ll tb ?_ | refine lg tb ?_))
  refine G.ret1 rfl rfl rfl rfl ?_
  exact ⟨rfl, Ext.refl _⟩
theorem refMetric_ok (s : List UInt8) (w : World) (hs : s.length ≤ 9223372036854775807) :
    Ret Tryd.prog 29 ⟨[S s]⟩ w fun v w' => v = .bool (namedB true s) ∧ Ext w w' := by
  refine ret_of_G Tryd.func29 rfl Tryd.ntmps29 rfl ?_
  simp only [argEnv]
  try (first | refine gl tb ?_ | refine gg tb ?_ | refine ll tb ?_ | refine lg tb ?_); repeat ((first | refine G.condT rfl ?_ | refine G.condF rfl ?_); try (first | refine gl tb ?_ | refine gg tb ?_ | refine ll tb ?_ | refine lg tb ?_))
  refine GL.cons (Step.callF rfl rfl rfl c63 rfl (word_ok s true w hs) ?_)
  rintro _ _ ⟨rfl, rfl⟩
  try (first | refine gl tb ?_ | refine gg tb ?_ | refine ll tb ?_ | refine lg tb ?_); repeat ((first | refine G.condT rfl ?_ | refine G.condF rfl ?_); try (first | refine gl tb ?_ | refine gg tb ?_ | refine ll tb ?_ | refine lg tb ?_))
  refine G.ret1 rfl rfl rfl rfl ?_
  exact ⟨rfl, Ext.refl _⟩
end Go.Proofs.YtfffblopkaandaaDoor
open Go Go.Vg Go.RowKit Go.Proofs Go.Proofs.YtfffblopkaandaaDoor
namespace Go.Proofs.YtfffblopkaandaaDoor
set_option linter.unusedSimpArgs false

/-- a leading byte: how many bytes, its bits, the least number that so many bytes may say -/
def lead (b : Int) : Option (Nat × Int × Int) :=
  if 240 ≤ b ∧ b < 248 then some (4, b - 240, 65536) else if 224 ≤ b ∧ b < 240 then some (3, b - 224, 2048) else if 192 ≤ b ∧ b < 224 then some (2, b - 192, 128)
  else if 128 ≤ b then none else some (1, b, 0)
def byteI (s : List UInt8) (i : Nat) : Int := ((s.getD i 0).toNat : Int)
theorem byteI_bd (s : List UInt8) (i : Nat) : 0 ≤ byteI s i ∧ byteI s i < 256 := by
  have := (s.getD i 0).toNat_lt
  unfold byteI; omega
/-- the number behind j further bytes -/
def contTo (s : List UInt8) (i : Nat) (c : Int) : Nat → Option Int
  | 0 => some c
  | j + 1 => match contTo s i c j with
    | none => none
    | some c => if byteI s (i + (j + 1)) < 128 ∨ 192 ≤ byteI s (i + (j + 1)) then none else some (64 * c + byteI s (i + (j + 1)) - 128)
def badRune (c least : Int) : Bool := decide (c < least) || decide (1114111 < c) || decide (55296 ≤ c) && decide (c ≤ 57343)
def u8n (s : List UInt8) (i : Nat) (n : Nat) (c least : Int) : Nat :=
  if s.length < i + n then 0 else match contTo s i c (n - 1) with
    | none => 0
    | some c => if badRune c least = true then 0 else n
/-- how many bytes the character has that begins at i -/
def u8len (s : List UInt8) (i : Nat) : Nat :=
  match lead (byteI s i) with
  | none => 0
  | some (n, c, least) => u8n s i n c least

theorem contTo_none {s : List UInt8} {i : Nat} {c : Int} {j : Nat} (h : contTo s i c j = none) : ∀ m, j ≤ m → contTo s i c m = none := by
  intro m
  induction m with
  | zero => intro hm; obtain rfl : j = 0 := by omega
            exact h
  | succ m ih =>
    intro hm
    by_cases e : j = m + 1
    · subst e; exact h
    · simp only [contTo, ih (by omega)]
theorem contTo_bd {s : List UInt8} {i : Nat} {c : Int} (hc : 0 ≤ c ∧ c < 256) : ∀ (j : Nat) (r : Int), contTo s i c j = some r → 0 ≤ r ∧ r + 1 ≤ 256 * 64 ^ j := by
  intro j
  induction j with
  | zero => intro r h; simp only [contTo, Option.some.injEq] at h; subst h; omega
  | succ j ih =>
    intro r h
    simp only [contTo] at h
    cases hj : contTo s i c j with
    | none => rw [hj] at h; cases h
    | some q =>
      rw [hj] at h
      simp only at h
      have hq := ih q hj
      have hp : (64 : Int) ^ (j + 1) = 64 * 64 ^ j := by rw [Int.pow_succ, Int.mul_comm]
      rw [hp]
      by_cases hx : byteI s (i + (j + 1)) < 128 ∨ 192 ≤ byteI s (i + (j + 1))
      · rw [if_pos hx] at h; cases h
      · rw [if_neg hx] at h; cases h; omega
theorem contTo_bd3 {s : List UInt8} {i : Nat} {c r : Int} {j : Nat} (hc : 0 ≤ c ∧ c < 256) (h : contTo s i c j = some r) (hj : j ≤ 3) : 0 ≤ r ∧ r < 67108864 := by
  have := contTo_bd hc j r h
  have h3 : (64 : Int) ^ j ≤ 262144 := by
    rcases (show j = 0 ∨ j = 1 ∨ j = 2 ∨ j = 3 by omega) with rfl | rfl | rfl | rfl <;> decide
  omega

set_option maxHeartbeats 800000 in
theorem utf8_ok (s : List UInt8) (i : Nat) (w : World) (hs : s.length ≤ 140737488355328) (hi : i < s.length) :
    Ret Tryd.prog 111 ⟨[S s, .int .i64 i]⟩ w fun v w' => v = .int .i64 (u8len s i) ∧ w' = w := by
  refine ret_of_G Tryd.func111 rfl Tryd.ntmps111 rfl ?_
  simp only [argEnv]
  try (first | refine gl tb ?_ | refine gg tb ?_ | refine ll tb ?_ | refine lg tb ?_); repeat ((first | refine G.condT rfl ?_ | refine G.condF rfl ?_); try (first | refine gl tb ?_ | refine gg tb ?_ | refine ll tb ?_ | refine lg tb ?_))
  refine GL.cons (Step.indexS tb i rfl (Op1.of rfl (by first | exact fun _ => rfl | exact fun h => h | exact fun h => bL h | exact fun h => bL (bL h) | exact fun h => bL (bL (bL h)))) (Op1.of rfl (by first | exact fun _ => rfl | exact fun h => h | exact fun h => bL h | exact fun h => bL (bL h) | exact fun h => bL (bL (bL h)))) rfl (fun _ => ⟨by omega, by omega⟩) rfl ?_)
  obtain ⟨b, hb⟩ : ∃ b : Int, b = byteI s i := ⟨_, rfl⟩
  have hbd := byteI_bd s i
  have hU : U (s.getD i 0) = .int .u8 b := by rw [hb]; rfl
  rw [hU]
  rw [← hb] at hbd
  refine GL.cons (Step.convI tb rfl (Op1.of rfl (by first | exact fun _ => rfl | exact fun h => h | exact fun h => bL h | exact fun h => bL (bL h) | exact fun h => bL (bL (bL h)))) rfl rfl (wrap_i64 (by omega) (by omega)) rfl ?_)
  try (first | refine gl tb ?_ | refine gg tb ?_ | refine ll tb ?_ | refine lg tb ?_); repeat ((first | refine G.condT rfl ?_ | refine G.condF rfl ?_); try (first | refine gl tb ?_ | refine gg tb ?_ | refine ll tb ?_ | refine lg tb ?_))
  refine G.join (fun x : Nat × Int × Int => [(0, none, S s), (0 + 1, none, .int .i64 i), (6, none, .int .i64 x.1), (7, none, .int .i64 x.2.1), (8, none, .int .i64 x.2.2)])
    (fun x w' => w' = w ∧ lead b = some x ∧ 1 ≤ x.1 ∧ x.1 ≤ 4 ∧ 0 ≤ x.2.1 ∧ x.2.1 < 256) ?_ ?_
  · rintro ⟨n, c, least⟩ w ⟨rfl, hl, hn1, hn4, hc0, hc1⟩
    simp only at hl hn1 hn4 hc0 hc1 ⊢
    have hu : u8len s i = u8n s i n c least := by unfold u8len; rw [← hb, hl]
    try (first | refine gl tb ?_ | refine gg tb ?_ | refine ll tb ?_ | refine lg tb ?_); repeat ((first | refine G.condT rfl ?_ | refine G.condF rfl ?_); try (first | refine gl tb ?_ | refine gg tb ?_ | refine ll tb ?_ | refine lg tb ?_))
    refine GL.cons (Step.arith rfl (Op1.of rfl (by first | exact fun _ => rfl | exact fun h => h | exact fun h => bL h | exact fun h => bL (bL h) | exact fun h => bL (bL (bL h)))) (Op1.of rfl (by first | exact fun _ => rfl | exact fun h => h | exact fun h => bL h | exact fun h => bL (bL h) | exact fun h => bL (bL (bL h)))) (wrap_i64 (by omega) (by omega)) rfl ?_)
    try (first | refine gl tb ?_ | refine gg tb ?_ | refine ll tb ?_ | refine lg tb ?_); repeat ((first | refine G.condT rfl ?_ | refine G.condF rfl ?_); try (first | refine gl tb ?_ | refine gg tb ?_ | refine ll tb ?_ | refine lg tb ?_))
    first | refine G.condD rfl (fun hc => ?_) (fun hc => ?_) | refine G.condN rfl (fun hc => ?_) (fun hc => ?_) | refine G.cond rfl (fun hc => ?_) (fun hc => ?_)
    · try (first | refine gl tb ?_ | refine gg tb ?_ | refine ll tb ?_ | refine lg tb ?_); repeat ((first | refine G.condT rfl ?_ | refine G.condF rfl ?_); try (first | refine gl tb ?_ | refine gg tb ?_ | refine ll tb ?_ | refine lg tb ?_))
      refine G.ret1 rfl rfl rfl rfl ?_
      refine ⟨?_, rfl⟩
      rw [hu, u8n, if_pos (by omega)]; rfl
    · try (first | refine gl tb ?_ | refine gg tb ?_ | refine ll tb ?_ | refine lg tb ?_); repeat ((first | refine G.condT rfl ?_ | refine G.condF rfl ?_); try (first | refine gl tb ?_ | refine gg tb ?_ | refine ll tb ?_ | refine lg tb ?_))
      refine (G.loop (fun x : Nat × Int => [(0, none, S s), (0 + 1, none, .int .i64 i), (6, none, .int .i64 n), (7, none, .int .i64 x.2), (8, none, .int .i64 least), (9, none, .int .i64 (x.1 + 1 : Nat))])
        (fun x w' => w' = w ∧ x.1 + 1 ≤ n ∧ contTo s i c x.1 = some x.2) (fun x => n - x.1) (0, c) (by repeat (first | exact Sub.nil _ | refine Sub.cons rfl ?_)) ⟨rfl, by simpa using hn1, rfl⟩ ?_)
      rintro ⟨j, q⟩ w ⟨rfl, hj, hq⟩
      simp only at hj hq ⊢
      have hqb := contTo_bd3 ⟨hc0, hc1⟩ hq (by omega)
      try (first | refine gl tb ?_ | refine gg tb ?_ | refine ll tb ?_ | refine lg tb ?_); repeat ((first | refine G.condT rfl ?_ | refine G.condF rfl ?_); try (first | refine gl tb ?_ | refine gg tb ?_ | refine ll tb ?_ | refine lg tb ?_))
      first | refine G.condD rfl (fun hc => ?_) (fun hc => ?_) | refine G.condN rfl (fun hc => ?_) (fun hc => ?_) | refine G.cond rfl (fun hc => ?_) (fun hc => ?_)
      · try (first | refine gl tb ?_ | refine gg tb ?_ | refine ll tb ?_ | refine lg tb ?_); repeat ((first | refine G.condT rfl ?_ | refine G.condF rfl ?_); try (first | refine gl tb ?_ | refine gg tb ?_ | refine ll tb ?_ | refine lg tb ?_))
        refine GL.cons (Step.arith rfl (Op1.of rfl (by first | exact fun _ => rfl | exact fun h => h | exact fun h => bL h | exact fun h => bL (bL h) | exact fun h => bL (bL (bL h)))) (Op1.of rfl (by first | exact fun _ => rfl | exact fun h => h | exact fun h => bL h | exact fun h => bL (bL h) | exact fun h => bL (bL (bL h)))) (wrap_i64 (by omega) (by omega)) rfl ?_)
        rw [show (i : Int) + ((j + 1 : Nat) : Int) = ((i + (j + 1) : Nat) : Int) by omega]
        refine GL.cons (Step.indexS tb (i + (j + 1)) rfl (Op1.of rfl (by first | exact fun _ => rfl | exact fun h => h | exact fun h => bL h | exact fun h => bL (bL h) | exact fun h => bL (bL (bL h)))) (Op1.of rfl (by first | exact fun _ => rfl | exact fun h => h | exact fun h => bL h | exact fun h => bL (bL h) | exact fun h => bL (bL (bL h)))) rfl (fun _ => ⟨by omega, by omega⟩) rfl ?_)
        obtain ⟨x, hx⟩ : ∃ x : Int, x = byteI s (i + (j + 1)) := ⟨_, rfl⟩
        have hxd := byteI_bd s (i + (j + 1))
        have hUx : U (s.getD (i + (j + 1)) 0) = .int .u8 x := by rw [hx]; rfl
        rw [hUx]
        rw [← hx] at hxd
        refine GL.cons (Step.convI tb rfl (Op1.of rfl (by first | exact fun _ => rfl | exact fun h => h | exact fun h => bL h | exact fun h => bL (bL h) | exact fun h => bL (bL (bL h)))) rfl rfl (wrap_i64 (by omega) (by omega)) rfl ?_)
        try (first | refine gl tb ?_ | refine gg tb ?_ | refine ll tb ?_ | refine lg tb ?_); repeat ((first | refine G.condT rfl ?_ | refine G.condF rfl ?_); try (first | refine gl tb ?_ | refine gg tb ?_ | refine ll tb ?_ | refine lg tb ?_))
        have hcn : contTo s i c (j + 1) = if x < 128 ∨ 192 ≤ x then none else some (64 * q + x - 128) := by simp only [contTo, hq, hx]
        first | refine G.condD rfl (fun hc => ?_) (fun hc => ?_) | refine G.condN rfl (fun hc => ?_) (fun hc => ?_) | refine G.cond rfl (fun hc => ?_) (fun hc => ?_)
        · try (first | refine gl tb ?_ | refine gg tb ?_ | refine ll tb ?_ | refine lg tb ?_); repeat ((first | refine G.condT rfl ?_ | refine G.condF rfl ?_); try (first | refine gl tb ?_ | refine gg tb ?_ | refine ll tb ?_ | refine lg tb ?_))
          refine G.ret1 rfl rfl rfl rfl ?_
          refine ⟨?_, rfl⟩
          simp only [Bool.or_eq_true, decide_eq_true_eq] at hc
          rw [if_pos hc] at hcn
          rw [hu, u8n, if_neg (by omega), contTo_none hcn (n - 1) (by omega)]; rfl
        · simp only [Bool.or_eq_false_iff, decide_eq_false_iff_not] at hc
          rw [if_neg (by omega)] at hcn
          try (first | refine gl tb ?_ | refine gg tb ?_ | refine ll tb ?_ | refine lg tb ?_); repeat ((first | refine G.condT rfl ?_ | refine G.condF rfl ?_); try (first | refine gl tb ?_ | refine gg tb ?_ | refine ll tb ?_ | refine lg tb ?_))
          refine GL.cons (Step.arith rfl (Op1.of rfl (by first | exact fun _ => rfl | exact fun h => h | exact fun h => bL h | exact fun h => bL (bL h) | exact fun h => bL (bL (bL h)))) (Op1.of rfl (by first | exact fun _ => rfl | exact fun h => h | exact fun h => bL h | exact fun h => bL (bL h) | exact fun h => bL (bL (bL h)))) (wrap_i64 (by omega) (by omega)) rfl ?_)
          try (first | refine gl tb ?_ | refine gg tb ?_ | refine ll tb ?_ | refine lg tb ?_); repeat ((first | refine G.condT rfl ?_ | refine G.condF rfl ?_); try (first | refine gl tb ?_ | refine gg tb ?_ | refine ll tb ?_ | refine lg tb ?_))
          refine GL.cons (Step.arith rfl (Op1.of rfl (by first | exact fun _ => rfl | exact fun h => h | exact fun h => bL h | exact fun h => bL (bL h) | exact fun h => bL (bL (bL h)))) (Op1.of rfl (by first | exact fun _ => rfl | exact fun h => h | exact fun h => bL h | exact fun h => bL (bL h) | exact fun h => bL (bL (bL h)))) (wrap_i64 (by omega) (by omega)) rfl ?_)
          try (first | refine gl tb ?_ | refine gg tb ?_ | refine ll tb ?_ | refine lg tb ?_); repeat ((first | refine G.condT rfl ?_ | refine G.condF rfl ?_); try (first | refine gl tb ?_ | refine gg tb ?_ | refine ll tb ?_ | refine lg tb ?_))
          refine GL.cons (Step.arith rfl (Op1.of rfl (by first | exact fun _ => rfl | exact fun h => h | exact fun h => bL h | exact fun h => bL (bL h) | exact fun h => bL (bL (bL h)))) (Op1.of rfl (by first | exact fun _ => rfl | exact fun h => h | exact fun h => bL h | exact fun h => bL (bL h) | exact fun h => bL (bL (bL h)))) (wrap_i64 (by omega) (by omega)) rfl ?_)
          try (first | refine gl tb ?_ | refine gg tb ?_ | refine ll tb ?_ | refine lg tb ?_); repeat ((first | refine G.condT rfl ?_ | refine G.condF rfl ?_); try (first | refine gl tb ?_ | refine gg tb ?_ | refine ll tb ?_ | refine lg tb ?_))
          refine GL.cons (Step.arith rfl (Op1.of rfl (by first | exact fun _ => rfl | exact fun h => h | exact fun h => bL h | exact fun h => bL (bL h) | exact fun h => bL (bL (bL h)))) (Op1.of rfl (by first | exact fun _ => rfl | exact fun h => h | exact fun h => bL h | exact fun h => bL (bL h) | exact fun h => bL (bL (bL h)))) (wrap_i64 (by omega) (by omega)) rfl ?_)
          try (first | refine gl tb ?_ | refine gg tb ?_ | refine ll tb ?_ | refine lg tb ?_); repeat ((first | refine G.condT rfl ?_ | refine G.condF rfl ?_); try (first | refine gl tb ?_ | refine gg tb ?_ | refine ll tb ?_ | refine lg tb ?_))
          exact G.lp (x := (j, q)) (j + 1, 64 * q + x - 128) (by repeat (first | exact Sub.nil _ | refine Sub.cons rfl ?_)) ⟨rfl, by simp only; omega, hcn⟩ (by simp only; omega)
      · have hjn : j = n - 1 := by omega
        try (first | refine gl tb ?_ | refine gg tb ?_ | refine ll tb ?_ | refine lg tb ?_); repeat ((first | refine G.condT rfl ?_ | refine G.condF rfl ?_); try (first | refine gl tb ?_ | refine gg tb ?_ | refine ll tb ?_ | refine lg tb ?_))
        first | refine G.condD rfl (fun hc => ?_) (fun hc => ?_) | refine G.condN rfl (fun hc => ?_) (fun hc => ?_) | refine G.cond rfl (fun hc => ?_) (fun hc => ?_)
        · try (first | refine gl tb ?_ | refine gg tb ?_ | refine ll tb ?_ | refine lg tb ?_); repeat ((first | refine G.condT rfl ?_ | refine G.condF rfl ?_); try (first | refine gl tb ?_ | refine gg tb ?_ | refine ll tb ?_ | refine lg tb ?_))
          refine G.ret1 rfl rfl rfl rfl ?_
          refine ⟨?_, rfl⟩
          rw [hu, u8n, if_neg (by omega), ← hjn, hq]
          simp only [badRune, hc, if_true]; rfl
        · try (first | refine gl tb ?_ | refine gg tb ?_ | refine ll tb ?_ | refine lg tb ?_); repeat ((first | refine G.condT rfl ?_ | refine G.condF rfl ?_); try (first | refine gl tb ?_ | refine gg tb ?_ | refine ll tb ?_ | refine lg tb ?_))
          refine G.ret1 rfl rfl rfl rfl ?_
          refine ⟨?_, rfl⟩
          rw [hu, u8n, if_neg (by omega), ← hjn, hq]
          simp only [badRune, hc, Bool.false_eq_true, if_false]
  · first | refine G.condD rfl (fun hc => ?_) (fun hc => ?_) | refine G.condN rfl (fun hc => ?_) (fun hc => ?_) | refine G.cond rfl (fun hc => ?_) (fun hc => ?_)
    · simp only [Bool.and_eq_true, decide_eq_true_eq] at hc
      try (first | refine gl tb ?_ | refine gg tb ?_ | refine ll tb ?_ | refine lg tb ?_); repeat ((first | refine G.condT rfl ?_ | refine G.condF rfl ?_); try (first | refine gl tb ?_ | refine gg tb ?_ | refine ll tb ?_ | refine lg tb ?_))
      refine GL.cons (Step.arith rfl (Op1.of rfl (by first | exact fun _ => rfl | exact fun h => h | exact fun h => bL h | exact fun h => bL (bL h) | exact fun h => bL (bL (bL h)))) (Op1.of rfl (by first | exact fun _ => rfl | exact fun h => h | exact fun h => bL h | exact fun h => bL (bL h) | exact fun h => bL (bL (bL h)))) (wrap_i64 (by omega) (by omega)) rfl ?_)
      try (first | refine gl tb ?_ | refine gg tb ?_ | refine ll tb ?_ | refine lg tb ?_); repeat ((first | refine G.condT rfl ?_ | refine G.condF rfl ?_); try (first | refine gl tb ?_ | refine gg tb ?_ | refine ll tb ?_ | refine lg tb ?_))
      exact G.met (4, b - 240, 65536) (by repeat (first | exact Sub.nil _ | refine Sub.cons rfl ?_)) ⟨rfl, by rw [lead, if_pos hc], by omega, by omega, by simp; omega, by simp; omega⟩
    · simp only [Bool.and_eq_false_iff, decide_eq_false_iff_not] at hc
      try (first | refine gl tb ?_ | refine gg tb ?_ | refine ll tb ?_ | refine lg tb ?_); repeat ((first | refine G.condT rfl ?_ | refine G.condF rfl ?_); try (first | refine gl tb ?_ | refine gg tb ?_ | refine ll tb ?_ | refine lg tb ?_))
      have hc1 := hc
      first | refine G.condD rfl (fun hc => ?_) (fun hc => ?_) | refine G.condN rfl (fun hc => ?_) (fun hc => ?_) | refine G.cond rfl (fun hc => ?_) (fun hc => ?_)
      · simp only [Bool.and_eq_true, decide_eq_true_eq] at hc
        try (first | refine gl tb ?_ | refine gg tb ?_ | refine ll tb ?_ | refine lg tb ?_); repeat ((first | refine G.condT rfl ?_ | refine G.condF rfl ?_); try (first | refine gl tb ?_ | refine gg tb ?_ | refine ll tb ?_ | refine lg tb ?_))
        refine GL.cons (Step.arith rfl (Op1.of rfl (by first | exact fun _ => rfl | exact fun h => h | exact fun h => bL h | exact fun h => bL (bL h) | exact fun h => bL (bL (bL h)))) (Op1.of rfl (by first | exact fun _ => rfl | exact fun h => h | exact fun h => bL h | exact fun h => bL (bL h) | exact fun h => bL (bL (bL h)))) (wrap_i64 (by omega) (by omega)) rfl ?_)
        try (first | refine gl tb ?_ | refine gg tb ?_ | refine ll tb ?_ | refine lg tb ?_); repeat ((first | refine G.condT rfl ?_ | refine G.condF rfl ?_); try (first | refine gl tb ?_ | refine gg tb ?_ | refine ll tb ?_ | refine lg tb ?_))
        exact G.met (3, b - 224, 2048) (by repeat (first | exact Sub.nil _ | refine Sub.cons rfl ?_)) ⟨rfl, by rw [lead, if_neg (by omega), if_pos hc], by omega, by omega, by simp; omega, by simp; omega⟩
      · simp only [Bool.and_eq_false_iff, decide_eq_false_iff_not] at hc
        try (first | refine gl tb ?_ | refine gg tb ?_ | refine ll tb ?_ | refine lg tb ?_); repeat ((first | refine G.condT rfl ?_ | refine G.condF rfl ?_); try (first | refine gl tb ?_ | refine gg tb ?_ | refine ll tb ?_ | refine lg tb ?_))
        have hc2 := hc
        first | refine G.condD rfl (fun hc => ?_) (fun hc => ?_) | refine G.condN rfl (fun hc => ?_) (fun hc => ?_) | refine G.cond rfl (fun hc => ?_) (fun hc => ?_)
        · simp only [Bool.and_eq_true, decide_eq_true_eq] at hc
          try (first | refine gl tb ?_ | refine gg tb ?_ | refine ll tb ?_ | refine lg tb ?_); repeat ((first | refine G.condT rfl ?_ | refine G.condF rfl ?_); try (first | refine gl tb ?_ | refine gg tb ?_ | refine ll tb ?_ | refine lg tb ?_))
          refine GL.cons (Step.arith rfl (Op1.of rfl (by first | exact fun _ => rfl | exact fun h => h | exact fun h => bL h | exact fun h => bL (bL h) | exact fun h => bL (bL (bL h)))) (Op1.of rfl (by first | exact fun _ => rfl | exact fun h => h | exact fun h => bL h | exact fun h => bL (bL h) | exact fun h => bL (bL (bL h)))) (wrap_i64 (by omega) (by omega)) rfl ?_)
          try (first | refine gl tb ?_ | refine gg tb ?_ | refine ll tb ?_ | refine lg tb ?_); repeat ((first | refine G.condT rfl ?_ | refine G.condF rfl ?_); try (first | refine gl tb ?_ | refine gg tb ?_ | refine ll tb ?_ | refine lg tb ?_))
          exact G.met (2, b - 192, 128) (by repeat (first | exact Sub.nil _ | refine Sub.cons rfl ?_)) ⟨rfl, by rw [lead, if_neg (by omega), if_neg (by omega), if_pos hc], by omega, by omega, by simp; omega, by simp; omega⟩
        · simp only [Bool.and_eq_false_iff, decide_eq_false_iff_not] at hc
          try (first | refine gl tb ?_ | refine gg tb ?_ | refine ll tb ?_ | refine lg tb ?_); repeat ((first | refine G.condT rfl ?_ | refine G.condF rfl ?_); try (first | refine gl tb ?_ | refine gg tb ?_ | refine ll tb ?_ | refine lg tb ?_))
          have hc3 := hc
          first | refine G.condD rfl (fun hc => ?_) (fun hc => ?_) | refine G.condN rfl (fun hc => ?_) (fun hc => ?_) | refine G.cond rfl (fun hc => ?_) (fun hc => ?_)
          · try (first | refine gl tb ?_ | refine gg tb ?_ | refine ll tb ?_ | refine lg tb ?_); repeat ((first | refine G.condT rfl ?_ | refine G.condF rfl ?_); try (first | refine gl tb ?_ | refine gg tb ?_ | refine ll tb ?_ | refine lg tb ?_))
            refine G.ret1 rfl rfl rfl rfl ?_
            refine ⟨?_, rfl⟩
            have : lead (byteI s i) = none := by rw [← hb, lead, if_neg (by omega), if_neg (by omega), if_neg (by omega), if_pos hc]
            simp only [u8len, this]
            rfl
          · try (first | refine gl tb ?_ | refine gg tb ?_ | refine ll tb ?_ | refine lg tb ?_); repeat ((first | refine G.condT rfl ?_ | refine G.condF rfl ?_); try (first | refine gl tb ?_ | refine gg tb ?_ | refine ll tb ?_ | refine lg tb ?_))
            exact G.met (1, b, 0) (by repeat (first | exact Sub.nil _ | refine Sub.cons rfl ?_)) ⟨rfl, by rw [lead, if_neg (by omega), if_neg (by omega), if_neg (by omega), if_neg hc], by omega, by omega, by simp; omega, by simp; omega⟩
end Go.Proofs.YtfffblopkaandaaDoor
open Go Go.Vg Go.RowKit Go.Proofs Go.Proofs.YtfffblopkaandaaDoor
namespace Go.Proofs.YtfffblopkaandaaDoor
set_option linter.unusedSimpArgs false

abbrev Lab := List UInt8 × List UInt8
def labC (x : Lab) : List Value := [S x.1, S x.2]
abbrev Labs (w : World) (v : Value) (ls : List Lab) : Prop := Sli w v 2 (ls.map labC)
theorem Labs.get {ls : List Lab} {k : Nat} (h : k < ls.length) : (ls.map labC)[k]? = some (labC ls[k]) := by simp [h]
theorem Labs.bound {w : World} {v : Value} {ls : List Lab} (h : Labs w v ls) : ls.length ≤ 9223372036854775807 := by have := Sli.bound h; simpa using this

/-- a matcher: its kind, name and value -/
abbrev Mat := Int × List UInt8 × List UInt8
def matC (m : Mat) : List Value := [.int .i64 m.1, S m.2.1, S m.2.2]
def isB (g : List UInt8 → List UInt8) (m : Mat) : Bool := if m.1 = 1 then decide (g m.2.1 = m.2.2) else if m.1 = 2 then !decide (g m.2.1 = m.2.2) else false

theorem cut_ok (v : Value) (ls : List Lab) (w : World) (hv : Labs w v ls) :
    Ret Tryd.prog 16 ⟨[v]⟩ w fun r w' => Labs w r (ls.take 80) ∧ w' = w := by
  have hbd := Labs.bound hv
  refine ret_of_G Tryd.func16 rfl Tryd.ntmps16 rfl ?_
  simp only [argEnv]
  try (first | refine gl tb ?_ | refine gg tb ?_ | refine ll tb ?_ | refine lg tb ?_); repeat ((first | refine G.condT rfl ?_ | refine G.condF rfl ?_); try (first | refine gl tb ?_ | refine gg tb ?_ | refine ll tb ?_ | refine lg tb ?_))
  refine GL.cons (Step.lenV tb rfl (Op1.of rfl (by first | exact fun _ => rfl | exact fun h => h | exact fun h => bL h | exact fun h => bL (bL h) | exact fun h => bL (bL (bL h)))) rfl (fun _ => ⟨_, hv⟩) rfl ?_)
  try (first | refine gl tb ?_ | refine gg tb ?_ | refine ll tb ?_ | refine lg tb ?_); repeat ((first | refine G.condT rfl ?_ | refine G.condF rfl ?_); try (first | refine gl tb ?_ | refine gg tb ?_ | refine ll tb ?_ | refine lg tb ?_))
  simp only [List.length_map]
  first | refine G.condD rfl (fun hc => ?_) (fun hc => ?_) | refine G.condN rfl (fun hc => ?_) (fun hc => ?_) | refine G.cond rfl (fun hc => ?_) (fun hc => ?_)
  · try (first | refine gl tb ?_ | refine gg tb ?_ | refine ll tb ?_ | refine lg tb ?_); repeat ((first | refine G.condT rfl ?_ | refine G.condF rfl ?_); try (first | refine gl tb ?_ | refine gg tb ?_ | refine ll tb ?_ | refine lg tb ?_))
    refine GL.cons (Step.sliceVh tb 80 rfl (Op1.of rfl (by first | exact fun _ => rfl | exact fun h => h | exact fun h => bL h | exact fun h => bL (bL h) | exact fun h => bL (bL (bL h)))) (Op1.of rfl (by first | exact fun _ => rfl | exact fun h => h | exact fun h => bL h | exact fun h => bL (bL h) | exact fun h => bL (bL (bL h)))) rfl rfl (fun _ => ⟨_, hv⟩) (fun _ => ⟨rfl, by rw [List.length_map]; omega⟩) rfl ?_)
    try (first | refine gl tb ?_ | refine gg tb ?_ | refine ll tb ?_ | refine lg tb ?_); repeat ((first | refine G.condT rfl ?_ | refine G.condF rfl ?_); try (first | refine gl tb ?_ | refine gg tb ?_ | refine ll tb ?_ | refine lg tb ?_))
    refine G.ret1 rfl rfl rfl rfl ?_
    refine ⟨?_, rfl⟩
    have := Sli.sub hv (l := 0) (h := 80) (by omega) (by rw [List.length_map]; omega)
    unfold Labs
    rw [List.map_take]
    simpa using this
  · try (first | refine gl tb ?_ | refine gg tb ?_ | refine ll tb ?_ | refine lg tb ?_); repeat ((first | refine G.condT rfl ?_ | refine G.condF rfl ?_); try (first | refine gl tb ?_ | refine gg tb ?_ | refine ll tb ?_ | refine lg tb ?_))
    refine G.ret1 rfl rfl rfl rfl ?_
    refine ⟨?_, rfl⟩
    rw [List.take_of_length_le (by omega)]; exact hv

def hasL (ls : List Lab) (name : List UInt8) : Bool := ls.any fun x => decide (x.1 = name)
theorem has_ok (v : Value) (ls : List Lab) (name : List UInt8) (w : World) (hv : Labs w v ls) :
    Ret Tryd.prog 60 ⟨[v, S name]⟩ w fun r w' => r = .bool (hasL ls name) ∧ w' = w := by
  have hbd := Labs.bound hv
  refine ret_of_G Tryd.func60 rfl Tryd.ntmps60 rfl ?_
  simp only [argEnv]
  try (first | refine gl tb ?_ | refine gg tb ?_ | refine ll tb ?_ | refine lg tb ?_); repeat ((first | refine G.condT rfl ?_ | refine G.condF rfl ?_); try (first | refine gl tb ?_ | refine gg tb ?_ | refine ll tb ?_ | refine lg tb ?_))
  refine (G.loop (fun k : Nat => [(0, none, v), (0 + 1, none, S name), (5, none, .int .i64 k)]) (fun k w' => w' = w ∧ k ≤ ls.length ∧ hasL (ls.take k) name = false) (fun k => ls.length - k) 0 (by repeat (first | exact Sub.nil _ | refine Sub.cons rfl ?_)) ⟨rfl, by omega, rfl⟩ ?_)
  rintro k w ⟨rfl, hk, hto⟩
  try (first | refine gl tb ?_ | refine gg tb ?_ | refine ll tb ?_ | refine lg tb ?_); repeat ((first | refine G.condT rfl ?_ | refine G.condF rfl ?_); try (first | refine gl tb ?_ | refine gg tb ?_ | refine ll tb ?_ | refine lg tb ?_))
  refine GL.cons (Step.lenV tb rfl (Op1.of rfl (by first | exact fun _ => rfl | exact fun h => h | exact fun h => bL h | exact fun h => bL (bL h) | exact fun h => bL (bL (bL h)))) rfl (fun _ => ⟨_, hv⟩) rfl ?_)
  try (first | refine gl tb ?_ | refine gg tb ?_ | refine ll tb ?_ | refine lg tb ?_); repeat ((first | refine G.condT rfl ?_ | refine G.condF rfl ?_); try (first | refine gl tb ?_ | refine gg tb ?_ | refine ll tb ?_ | refine lg tb ?_))
  simp only [List.length_map]
  first | refine G.condD rfl (fun hc => ?_) (fun hc => ?_) | refine G.condN rfl (fun hc => ?_) (fun hc => ?_) | refine G.cond rfl (fun hc => ?_) (fun hc => ?_)
  · have hlt : k < ls.length := by omega
    try (first | refine gl tb ?_ | refine gg tb ?_ | refine ll tb ?_ | refine lg tb ?_); repeat ((first | refine G.condT rfl ?_ | refine G.condF rfl ?_); try (first | refine gl tb ?_ | refine gg tb ?_ | refine ll tb ?_ | refine lg tb ?_))
    refine GL.cons (Step.indexAddr tb k rfl (Op1.of rfl (by first | exact fun _ => rfl | exact fun h => h | exact fun h => bL h | exact fun h => bL (bL h) | exact fun h => bL (bL (bL h)))) (Op1.of rfl (by first | exact fun _ => rfl | exact fun h => h | exact fun h => bL h | exact fun h => bL (bL h) | exact fun h => bL (bL (bL h)))) rfl rfl (fun _ => ⟨_, hv⟩) (fun _ => ⟨by omega, by simpa using hlt⟩) rfl ?_)
    refine GL.cons (Step.fieldAddr tb rfl (Op1.of rfl (by first | exact fun _ => rfl | exact fun h => h | exact fun h => bL h | exact fun h => bL (bL h) | exact fun h => bL (bL (bL h)))) rfl rfl rfl rfl (fun _ => (hv.elem (Labs.get hlt)).ptr) rfl ?_)
    refine GL.cons (Step.load1 tb rfl (Op1.of rfl (by first | exact fun _ => rfl | exact fun h => h | exact fun h => bL h | exact fun h => bL (bL h) | exact fun h => bL (bL (bL h)))) rfl rfl (fun _ => (hv.elem (Labs.get hlt)).cell (i := 0) rfl) rfl ?_)
    try (first | refine gl tb ?_ | refine gg tb ?_ | refine ll tb ?_ | refine lg tb ?_); repeat ((first | refine G.condT rfl ?_ | refine G.condF rfl ?_); try (first | refine gl tb ?_ | refine gg tb ?_ | refine ll tb ?_ | refine lg tb ?_))
    have ht : ls.take (k + 1) = ls.take k ++ [ls[k]] := by rw [List.take_succ_eq_append_getElem hlt]
    first | refine G.condD rfl (fun hc => ?_) (fun hc => ?_) | refine G.condN rfl (fun hc => ?_) (fun hc => ?_) | refine G.cond rfl (fun hc => ?_) (fun hc => ?_)
    · try (first | refine gl tb ?_ | refine gg tb ?_ | refine ll tb ?_ | refine lg tb ?_); repeat ((first | refine G.condT rfl ?_ | refine G.condF rfl ?_); try (first | refine gl tb ?_ | refine gg tb ?_ | refine ll tb ?_ | refine lg tb ?_))
      refine G.ret1 rfl rfl rfl rfl ?_
      refine ⟨?_, rfl⟩
      have : hasL ls name = true := List.any_eq_true.2 ⟨ls[k], List.getElem_mem hlt, by simpa using hc⟩
      rw [this]
    · try (first | refine gl tb ?_ | refine gg tb ?_ | refine ll tb ?_ | refine lg tb ?_); repeat ((first | refine G.condT rfl ?_ | refine G.condF rfl ?_); try (first | refine gl tb ?_ | refine gg tb ?_ | refine ll tb ?_ | refine lg tb ?_))
      refine GL.cons (Step.arith rfl (Op1.of rfl (by first | exact fun _ => rfl | exact fun h => h | exact fun h => bL h | exact fun h => bL (bL h) | exact fun h => bL (bL (bL h)))) (Op1.of rfl (by first | exact fun _ => rfl | exact fun h => h | exact fun h => bL h | exact fun h => bL (bL h) | exact fun h => bL (bL (bL h)))) (wrap_i64 (by omega) (by omega)) rfl ?_)
      try (first | refine gl tb ?_ | refine gg tb ?_ | refine ll tb ?_ | refine lg tb ?_); repeat ((first | refine G.condT rfl ?_ | refine G.condF rfl ?_); try (first | refine gl tb ?_ | refine gg tb ?_ | refine ll tb ?_ | refine lg tb ?_))
      refine G.lp (k + 1) (by repeat (first | exact Sub.nil _ | refine Sub.cons rfl ?_)) ⟨rfl, by omega, ?_⟩ (by omega)
      rw [ht]; simp only [hasL, List.any_append, List.any_cons, List.any_nil, Bool.or_false, Bool.or_eq_false_iff]
      exact ⟨hto, by simpa using hc⟩
  · try (first | refine gl tb ?_ | refine gg tb ?_ | refine ll tb ?_ | refine lg tb ?_); repeat ((first | refine G.condT rfl ?_ | refine G.condF rfl ?_); try (first | refine gl tb ?_ | refine gg tb ?_ | refine ll tb ?_ | refine lg tb ?_))
    refine G.ret1 rfl rfl rfl rfl ?_
    refine ⟨?_, rfl⟩
    obtain rfl : k = ls.length := by omega
    rw [List.take_length] at hto; rw [hto]

theorem drop_cons {α : Type} {l : List α} {k : Nat} (h : k < l.length) : l.drop k = l[k] :: l.drop (k + 1) := List.drop_eq_getElem_cons h
/-- P2.2: the value of the first label of that name -/
def getL : List Lab → List UInt8 → List UInt8
  | [], _ => []
  | x :: r, name => if x.1 = name then x.2 else getL r name

theorem refGet_ok (v : Value) (ls : List Lab) (name : List UInt8) (w : World) (hv : Labs w v ls) :
    Ret Tryd.prog 51 ⟨[v, S name]⟩ w fun r w' => r = S (getL ls name) ∧ Ext w w' := by
  have hbd := Labs.bound hv
  refine ret_of_G Tryd.func51 rfl Tryd.ntmps51 rfl ?_
  simp only [argEnv]
  try (first | refine gl tb ?_ | refine gg tb ?_ | refine ll tb ?_ | refine lg tb ?_); repeat ((first | refine G.condT rfl ?_ | refine G.condF rfl ?_); try (first | refine gl tb ?_ | refine gg tb ?_ | refine ll tb ?_ | refine lg tb ?_))
  refine (G.loop (fun k : Nat => [(0, none, v), (0 + 1, none, S name), (5, none, .int .i64 k)]) (fun k w' => w' = w ∧ k ≤ ls.length ∧ getL (ls.drop k) name = getL ls name) (fun k => ls.length - k) 0 (by repeat (first | exact Sub.nil _ | refine Sub.cons rfl ?_)) ⟨rfl, by omega, rfl⟩ ?_)
  rintro k w ⟨rfl, hk, hto⟩
  try (first | refine gl tb ?_ | refine gg tb ?_ | refine ll tb ?_ | refine lg tb ?_); repeat ((first | refine G.condT rfl ?_ | refine G.condF rfl ?_); try (first | refine gl tb ?_ | refine gg tb ?_ | refine ll tb ?_ | refine lg tb ?_))
  refine GL.cons (Step.lenV tb rfl (Op1.of rfl (by first | exact fun _ => rfl | exact fun h => h | exact fun h => bL h | exact fun h => bL (bL h) | exact fun h => bL (bL (bL h)))) rfl (fun _ => ⟨_, hv⟩) rfl ?_)
  try (first | refine gl tb ?_ | refine gg tb ?_ | refine ll tb ?_ | refine lg tb ?_); repeat ((first | refine G.condT rfl ?_ | refine G.condF rfl ?_); try (first | refine gl tb ?_ | refine gg tb ?_ | refine ll tb ?_ | refine lg tb ?_))
  simp only [List.length_map]
  first | refine G.condD rfl (fun hc => ?_) (fun hc => ?_) | refine G.condN rfl (fun hc => ?_) (fun hc => ?_) | refine G.cond rfl (fun hc => ?_) (fun hc => ?_)
  · have hlt : k < ls.length := by omega
    rw [drop_cons hlt] at hto
    try (first | refine gl tb ?_ | refine gg tb ?_ | refine ll tb ?_ | refine lg tb ?_); repeat ((first | refine G.condT rfl ?_ | refine G.condF rfl ?_); try (first | refine gl tb ?_ | refine gg tb ?_ | refine ll tb ?_ | refine lg tb ?_))
    refine GL.cons (Step.indexAddr tb k rfl (Op1.of rfl (by first | exact fun _ => rfl | exact fun h => h | exact fun h => bL h | exact fun h => bL (bL h) | exact fun h => bL (bL (bL h)))) (Op1.of rfl (by first | exact fun _ => rfl | exact fun h => h | exact fun h => bL h | exact fun h => bL (bL h) | exact fun h => bL (bL (bL h)))) rfl rfl (fun _ => ⟨_, hv⟩) (fun _ => ⟨by omega, by simpa using hlt⟩) rfl ?_)
    refine GL.cons (Step.fieldAddr tb rfl (Op1.of rfl (by first | exact fun _ => rfl | exact fun h => h | exact fun h => bL h | exact fun h => bL (bL h) | exact fun h => bL (bL (bL h)))) rfl rfl rfl rfl (fun _ => (hv.elem (Labs.get hlt)).ptr) rfl ?_)
    refine GL.cons (Step.load1 tb rfl (Op1.of rfl (by first | exact fun _ => rfl | exact fun h => h | exact fun h => bL h | exact fun h => bL (bL h) | exact fun h => bL (bL (bL h)))) rfl rfl (fun _ => (hv.elem (Labs.get hlt)).cell (i := 0) rfl) rfl ?_)
    try (first | refine gl tb ?_ | refine gg tb ?_ | refine ll tb ?_ | refine lg tb ?_); repeat ((first | refine G.condT rfl ?_ | refine G.condF rfl ?_); try (first | refine gl tb ?_ | refine gg tb ?_ | refine ll tb ?_ | refine lg tb ?_))
    first | refine G.condD rfl (fun hc => ?_) (fun hc => ?_) | refine G.condN rfl (fun hc => ?_) (fun hc => ?_) | refine G.cond rfl (fun hc => ?_) (fun hc => ?_)
    · try (first | refine gl tb ?_ | refine gg tb ?_ | refine ll tb ?_ | refine lg tb ?_); repeat ((first | refine G.condT rfl ?_ | refine G.condF rfl ?_); try (first | refine gl tb ?_ | refine gg tb ?_ | refine ll tb ?_ | refine lg tb ?_))
      refine GL.cons (Step.indexAddr tb k rfl (Op1.of rfl (by first | exact fun _ => rfl | exact fun h => h | exact fun h => bL h | exact fun h => bL (bL h) | exact fun h => bL (bL (bL h)))) (Op1.of rfl (by first | exact fun _ => rfl | exact fun h => h | exact fun h => bL h | exact fun h => bL (bL h) | exact fun h => bL (bL (bL h)))) rfl rfl (fun _ => ⟨_, hv⟩) (fun _ => ⟨by omega, by simpa using hlt⟩) rfl ?_)
      refine GL.cons (Step.fieldAddr tb rfl (Op1.of rfl (by first | exact fun _ => rfl | exact fun h => h | exact fun h => bL h | exact fun h => bL (bL h) | exact fun h => bL (bL (bL h)))) rfl rfl rfl rfl (fun _ => (hv.elem (Labs.get hlt)).ptr) rfl ?_)
      refine GL.cons (Step.load1 tb rfl (Op1.of rfl (by first | exact fun _ => rfl | exact fun h => h | exact fun h => bL h | exact fun h => bL (bL h) | exact fun h => bL (bL (bL h)))) rfl rfl (fun _ => (hv.elem (Labs.get hlt)).cell (i := 1) rfl) rfl ?_)
      try (first | refine gl tb ?_ | refine gg tb ?_ | refine ll tb ?_ | refine lg tb ?_); repeat ((first | refine G.condT rfl ?_ | refine G.condF rfl ?_); try (first | refine gl tb ?_ | refine gg tb ?_ | refine ll tb ?_ | refine lg tb ?_))
      refine G.ret1 rfl rfl rfl rfl ?_
      refine ⟨?_, Ext.refl _⟩
      rw [← hto]; simp only [getL]; rw [if_pos hc]
    · try (first | refine gl tb ?_ | refine gg tb ?_ | refine ll tb ?_ | refine lg tb ?_); repeat ((first | refine G.condT rfl ?_ | refine G.condF rfl ?_); try (first | refine gl tb ?_ | refine gg tb ?_ | refine ll tb ?_ | refine lg tb ?_))
      refine GL.cons (Step.arith rfl (Op1.of rfl (by first | exact fun _ => rfl | exact fun h => h | exact fun h => bL h | exact fun h => bL (bL h) | exact fun h => bL (bL (bL h)))) (Op1.of rfl (by first | exact fun _ => rfl | exact fun h => h | exact fun h => bL h | exact fun h => bL (bL h) | exact fun h => bL (bL (bL h)))) (wrap_i64 (by omega) (by omega)) rfl ?_)
      try (first | refine gl tb ?_ | refine gg tb ?_ | refine ll tb ?_ | refine lg tb ?_); repeat ((first | refine G.condT rfl ?_ | refine G.condF rfl ?_); try (first | refine gl tb ?_ | refine gg tb ?_ | refine ll tb ?_ | refine lg tb ?_))
      refine G.lp (k + 1) (by repeat (first | exact Sub.nil _ | refine Sub.cons rfl ?_)) ⟨rfl, by omega, ?_⟩ (by omega)
      rw [← hto]; simp only [getL]; rw [if_neg hc]
  · try (first | refine gl tb ?_ | refine gg tb ?_ | refine ll tb ?_ | refine lg tb ?_); repeat ((first | refine G.condT rfl ?_ | refine G.condF rfl ?_); try (first | refine gl tb ?_ | refine gg tb ?_ | refine ll tb ?_ | refine lg tb ?_))
    refine G.ret1 rfl rfl rfl rfl ?_
    refine ⟨?_, Ext.refl _⟩
    obtain rfl : k = ls.length := by omega
    rw [List.drop_length] at hto; rw [← hto]; rfl

end Go.Proofs.YtfffblopkaandaaDoor
open Go Go.Vg Go.RowKit Go.Proofs Go.Proofs.YtfffblopkaandaaDoor
namespace Go.Proofs.YtfffblopkaandaaDoor
set_option linter.unusedSimpArgs false

def labAt (ls : List Lab) (k : Nat) : Lab := ls.getD k ([], [])
theorem Labs.getD {ls : List Lab} {k : Nat} (h : k < ls.length) : (ls.map labC)[k]? = some (labC (labAt ls k)) := by simp [labAt, h, List.getD]
theorem ltc {k n : Nat} (h : cv (some (decide ((k : Int) < (n : Int)))) = true) : k < n := by have := of_decide_eq_true h; omega
/-- how many labels come ahead of a name -/
def lessN (ls : List Lab) (name : List UInt8) : Nat := (ls.takeWhile fun x => Op.bytesLess x.1 name).length
def putL (ls : List Lab) (x : Lab) : List Lab := ls.takeWhile (fun y => Op.bytesLess y.1 x.1) ++ x :: ls.dropWhile (fun y => Op.bytesLess y.1 x.1)

theorem tw_step {α : Type} {p : α → Bool} (d : α) : ∀ (l : List α) (k : Nat), k ≤ (l.takeWhile p).length → ((k < l.length ∧ p (l.getD k d) = true) ↔ k < (l.takeWhile p).length)
  | [], k, _ => by simp
  | x :: l, 0, _ => by
    cases hp : p x <;> simp [hp]
  | x :: l, k + 1, h => by
    cases hp : p x with
    | false => simp [hp] at h
    | true =>
      simp only [List.takeWhile_cons, hp, if_true, List.length_cons] at h ⊢
      have := tw_step (p := p) d l k (by omega)
      simp only [List.getD_cons_succ]
      rw [Nat.add_lt_add_iff_right, Nat.add_lt_add_iff_right]
      exact this
theorem take_tw {α : Type} (p : α → Bool) (l : List α) : l.take (l.takeWhile p).length = l.takeWhile p := by
  have := List.takeWhile_append_dropWhile (p := p) (l := l)
  conv => lhs; rw [← this]
  rw [List.take_left']
  rw [this]
theorem drop_tw {α : Type} (p : α → Bool) (l : List α) : l.drop (l.takeWhile p).length = l.dropWhile p := by
  have := List.takeWhile_append_dropWhile (p := p) (l := l)
  conv => lhs; rw [← this]
  rw [List.drop_left']
  rw [this]
theorem lab1 (ls : List Lab) : ∀ y ∈ ls.map labC, ∀ c ∈ y, c.oneCell' = true := by
  intro y hy c hc
  obtain ⟨x, _, rfl⟩ := List.mem_map.1 hy
  simp only [labC, List.mem_cons, List.not_mem_nil, or_false] at hc
  rcases hc with rfl | rfl <;> rfl
theorem labLen (ls : List Lab) : ∀ x ∈ ls.map labC, x.length = 2 := by
  intro y hy
  obtain ⟨x, _, rfl⟩ := List.mem_map.1 hy
  rfl
theorem Labs.sub {w : World} {v : Value} {ls : List Lab} (hs : Labs w v ls) {l h : Nat} (hl : l ≤ h) (hh : h ≤ ls.length) : Labs w (subS v 2 l h) ((ls.drop l).take (h - l)) := by
  have := Sli.sub hs hl (by simpa using hh)
  unfold Labs
  rw [List.map_take, List.map_drop]; exact this

theorem put_ok (v : Value) (ls : List Lab) (x : Lab) (w : World) (hv : Labs w v ls) (hn : ls.length ≤ 1000) :
    Ret Tryd.prog 61 ⟨[v, .agg ⟨labC x⟩]⟩ w fun r w' => Owns w' w.heap.size r 28 2 ((putL ls x).map labC) ∧ Ext w w' := by
  refine ret_of_G Tryd.func61 rfl Tryd.ntmps61 rfl ?_
  simp only [argEnv]
  try (first | refine gl tb ?_ | refine gg tb ?_ | refine ll tb ?_ | refine lg tb ?_); repeat ((first | refine G.condT rfl ?_ | refine G.condF rfl ?_); try (first | refine gl tb ?_ | refine gg tb ?_ | refine ll tb ?_ | refine lg tb ?_))
  refine GL.cons (Step.box rfl (Op1.of rfl (by first | exact fun _ => rfl | exact fun h => h | exact fun h => bL h | exact fun h => bL (bL h) | exact fun h => bL (bL (bL h)))) (rfl) rfl ?_)
  intro w1 hb1 hs1 hx1
  have hv1 := hv.to hx1
  try (first | refine gl tb ?_ | refine gg tb ?_ | refine ll tb ?_ | refine lg tb ?_); repeat ((first | refine G.condT rfl ?_ | refine G.condF rfl ?_); try (first | refine gl tb ?_ | refine gg tb ?_ | refine ll tb ?_ | refine lg tb ?_))
  refine (G.loop (fun k : Nat => [(0, none, v), (3, none, ptr w.heap.size), (5, none, .int .i64 k)]) (fun k w' => Ext w1 w' ∧ k ≤ ls.length ∧ k ≤ lessN ls x.1) (fun k => ls.length - k) 0 (by repeat (first | exact Sub.nil _ | refine Sub.cons rfl ?_)) ⟨Ext.refl _, by omega, by omega⟩ ?_)
  rintro k w2 ⟨hx2, hk, hkl⟩
  have hv2 := hv1.to hx2
  have hb2 := hb1.to hx2
  try (first | refine gl tb ?_ | refine gg tb ?_ | refine ll tb ?_ | refine lg tb ?_); repeat ((first | refine G.condT rfl ?_ | refine G.condF rfl ?_); try (first | refine gl tb ?_ | refine gg tb ?_ | refine ll tb ?_ | refine lg tb ?_))
  refine G.regionM [(0, true), (1, true), (2, true), (3, true), (4, true), (5, true), (6, true), (7, true), (8, true), (9, true), (10, true), (11, true), (12, true), (13, true)] (Ext w2) (by kernel_rfl) (by kernel_rfl) rfl mixed (Ext.drew w2) rfl ?_
  repeat (first
    | refine GM.nil ?_
    | refine GM.read (fun w' hS => Step.move rfl (Op1.of rfl (by first | exact fun _ => rfl | exact fun h => h | exact fun h => bL h | exact fun h => bL (bL h) | exact fun h => bL (bL (bL h)))) rfl ⟨rfl, rfl⟩) rfl rfl ?_
    | refine GM.read (fun w' hS => Step.assign rfl (Op1.of rfl (by first | exact fun _ => rfl | exact fun h => h | exact fun h => bL h | exact fun h => bL (bL h) | exact fun h => bL (bL (bL h)))) rfl ⟨rfl, rfl⟩) rfl rfl ?_
    | refine GM.read (fun w' hS => Step.bin rfl (Op1.of rfl (by first | exact fun _ => rfl | exact fun h => h | exact fun h => bL h | exact fun h => bL (bL h) | exact fun h => bL (bL (bL h)))) (Op1.of rfl (by first | exact fun _ => rfl | exact fun h => h | exact fun h => bL h | exact fun h => bL (bL h) | exact fun h => bL (bL (bL h)))) rfl rfl ⟨rfl, rfl⟩) rfl rfl ?_
    | refine GM.read (fun w' hS => Step.and rfl (Op1.of rfl (by first | exact fun _ => rfl | exact fun h => h | exact fun h => bL h | exact fun h => bL (bL h) | exact fun h => bL (bL (bL h)))) rfl (by first | exact fun _ _ => rfl | exact fun _ h => h | exact fun _ h => bNot h | exact fun h k => bAnd h k | exact fun h k => bAnd h (bNot k)) rfl ⟨rfl, rfl⟩) rfl rfl ?_
    | refine GM.read (fun w' hS => Step.or rfl (Op1.of rfl (by first | exact fun _ => rfl | exact fun h => h | exact fun h => bL h | exact fun h => bL (bL h) | exact fun h => bL (bL (bL h)))) rfl (by first | exact fun _ _ => rfl | exact fun _ h => h | exact fun _ h => bNot h | exact fun h k => bAnd h k | exact fun h k => bAnd h (bNot k)) rfl ⟨rfl, rfl⟩) rfl rfl ?_
    | refine GM.read (fun w' hS => Step.lenS tb rfl (Op1.of rfl (by first | exact fun _ => rfl | exact fun h => h | exact fun h => bL h | exact fun h => bL (bL h) | exact fun h => bL (bL (bL h)))) rfl rfl ⟨rfl, rfl⟩) rfl rfl ?_
    | refine GM.read (fun w' hS => Step.un rfl (Op1.of rfl (by first | exact fun _ => rfl | exact fun h => h | exact fun h => bL h | exact fun h => bL (bL h) | exact fun h => bL (bL (bL h)))) rfl rfl ⟨rfl, rfl⟩) rfl rfl ?_
    | refine GM.read (fun w' hS => Step.extract rfl (Op1.of rfl (by first | exact fun _ => rfl | exact fun h => h | exact fun h => bL h | exact fun h => bL (bL h) | exact fun h => bL (bL (bL h)))) rfl rfl ⟨rfl, rfl⟩) rfl rfl ?_)
  refine GM.read (fun w' hS => Step.lenV tb rfl (Op1.of rfl (by first | exact fun _ => rfl | exact fun h => h | exact fun h => bL h | exact fun h => bL (bL h) | exact fun h => bL (bL (bL h)))) rfl (fun hc => ⟨_, hv2⟩) rfl ⟨rfl, rfl⟩) rfl rfl ?_
  simp only [List.length_map]
  repeat (first
    | refine GM.nil ?_
    | refine GM.read (fun w' hS => Step.move rfl (Op1.of rfl (by first | exact fun _ => rfl | exact fun h => h | exact fun h => bL h | exact fun h => bL (bL h) | exact fun h => bL (bL (bL h)))) rfl ⟨rfl, rfl⟩) rfl rfl ?_
    | refine GM.read (fun w' hS => Step.assign rfl (Op1.of rfl (by first | exact fun _ => rfl | exact fun h => h | exact fun h => bL h | exact fun h => bL (bL h) | exact fun h => bL (bL (bL h)))) rfl ⟨rfl, rfl⟩) rfl rfl ?_
    | refine GM.read (fun w' hS => Step.bin rfl (Op1.of rfl (by first | exact fun _ => rfl | exact fun h => h | exact fun h => bL h | exact fun h => bL (bL h) | exact fun h => bL (bL (bL h)))) (Op1.of rfl (by first | exact fun _ => rfl | exact fun h => h | exact fun h => bL h | exact fun h => bL (bL h) | exact fun h => bL (bL (bL h)))) rfl rfl ⟨rfl, rfl⟩) rfl rfl ?_
    | refine GM.read (fun w' hS => Step.and rfl (Op1.of rfl (by first | exact fun _ => rfl | exact fun h => h | exact fun h => bL h | exact fun h => bL (bL h) | exact fun h => bL (bL (bL h)))) rfl (by first | exact fun _ _ => rfl | exact fun _ h => h | exact fun _ h => bNot h | exact fun h k => bAnd h k | exact fun h k => bAnd h (bNot k)) rfl ⟨rfl, rfl⟩) rfl rfl ?_
    | refine GM.read (fun w' hS => Step.or rfl (Op1.of rfl (by first | exact fun _ => rfl | exact fun h => h | exact fun h => bL h | exact fun h => bL (bL h) | exact fun h => bL (bL (bL h)))) rfl (by first | exact fun _ _ => rfl | exact fun _ h => h | exact fun _ h => bNot h | exact fun h k => bAnd h k | exact fun h k => bAnd h (bNot k)) rfl ⟨rfl, rfl⟩) rfl rfl ?_
    | refine GM.read (fun w' hS => Step.lenS tb rfl (Op1.of rfl (by first | exact fun _ => rfl | exact fun h => h | exact fun h => bL h | exact fun h => bL (bL h) | exact fun h => bL (bL (bL h)))) rfl rfl ⟨rfl, rfl⟩) rfl rfl ?_
    | refine GM.read (fun w' hS => Step.un rfl (Op1.of rfl (by first | exact fun _ => rfl | exact fun h => h | exact fun h => bL h | exact fun h => bL (bL h) | exact fun h => bL (bL (bL h)))) rfl rfl ⟨rfl, rfl⟩) rfl rfl ?_
    | refine GM.read (fun w' hS => Step.extract rfl (Op1.of rfl (by first | exact fun _ => rfl | exact fun h => h | exact fun h => bL h | exact fun h => bL (bL h) | exact fun h => bL (bL (bL h)))) rfl rfl ⟨rfl, rfl⟩) rfl rfl ?_)
  refine GM.read (fun w' hS => Step.indexAddr tb k rfl (Op1.of rfl (by first | exact fun _ => rfl | exact fun h => h | exact fun h => bL h | exact fun h => bL (bL h) | exact fun h => bL (bL (bL h)))) (Op1.of rfl (by first | exact fun _ => rfl | exact fun h => h | exact fun h => bL h | exact fun h => bL (bL h) | exact fun h => bL (bL (bL h)))) rfl rfl (fun hc => ⟨_, hv2⟩) (fun hc => ⟨rfl, by rw [List.length_map]; exact ltc hc⟩) rfl ⟨rfl, rfl⟩) rfl rfl ?_
  refine GM.read (fun w' hS => Step.fieldAddr tb rfl (Op1.of rfl (by first | exact fun _ => rfl | exact fun h => h | exact fun h => bL h | exact fun h => bL (bL h) | exact fun h => bL (bL (bL h)))) rfl rfl rfl rfl (fun hc => (hv2.elem (Labs.getD (ltc hc))).ptr) rfl ⟨rfl, rfl⟩) rfl rfl ?_
  refine GM.read (fun w' hS => Step.load1 tb rfl (Op1.of rfl (by first | exact fun _ => rfl | exact fun h => h | exact fun h => bL h | exact fun h => bL (bL h) | exact fun h => bL (bL (bL h)))) rfl rfl (fun hc => ((hv2.to hS).elem (Labs.getD (ltc hc))).cell (i := 0) rfl) rfl ⟨rfl, rfl⟩) rfl rfl ?_
  refine GM.read (fun w' hS => Step.fieldAddr tb rfl (Op1.of rfl (by first | exact fun _ => rfl | exact fun h => h | exact fun h => bL h | exact fun h => bL (bL h) | exact fun h => bL (bL (bL h)))) rfl rfl rfl rfl (fun hc => ptr_ptr _) rfl ⟨rfl, rfl⟩) rfl rfl ?_
  refine GM.read (fun w' hS => Step.load1 tb rfl (Op1.of rfl (by first | exact fun _ => rfl | exact fun h => h | exact fun h => bL h | exact fun h => bL (bL h) | exact fun h => bL (bL (bL h)))) rfl rfl (fun hc => (hb2.to hS).cells.cell (i := 0) rfl) rfl ⟨rfl, rfl⟩) rfl rfl ?_
  repeat (first
    | refine GM.nil ?_
    | refine GM.read (fun w' hS => Step.move rfl (Op1.of rfl (by first | exact fun _ => rfl | exact fun h => h | exact fun h => bL h | exact fun h => bL (bL h) | exact fun h => bL (bL (bL h)))) rfl ⟨rfl, rfl⟩) rfl rfl ?_
    | refine GM.read (fun w' hS => Step.assign rfl (Op1.of rfl (by first | exact fun _ => rfl | exact fun h => h | exact fun h => bL h | exact fun h => bL (bL h) | exact fun h => bL (bL (bL h)))) rfl ⟨rfl, rfl⟩) rfl rfl ?_
    | refine GM.read (fun w' hS => Step.bin rfl (Op1.of rfl (by first | exact fun _ => rfl | exact fun h => h | exact fun h => bL h | exact fun h => bL (bL h) | exact fun h => bL (bL (bL h)))) (Op1.of rfl (by first | exact fun _ => rfl | exact fun h => h | exact fun h => bL h | exact fun h => bL (bL h) | exact fun h => bL (bL (bL h)))) rfl rfl ⟨rfl, rfl⟩) rfl rfl ?_
    | refine GM.read (fun w' hS => Step.and rfl (Op1.of rfl (by first | exact fun _ => rfl | exact fun h => h | exact fun h => bL h | exact fun h => bL (bL h) | exact fun h => bL (bL (bL h)))) rfl (by first | exact fun _ _ => rfl | exact fun _ h => h | exact fun _ h => bNot h | exact fun h k => bAnd h k | exact fun h k => bAnd h (bNot k)) rfl ⟨rfl, rfl⟩) rfl rfl ?_
    | refine GM.read (fun w' hS => Step.or rfl (Op1.of rfl (by first | exact fun _ => rfl | exact fun h => h | exact fun h => bL h | exact fun h => bL (bL h) | exact fun h => bL (bL (bL h)))) rfl (by first | exact fun _ _ => rfl | exact fun _ h => h | exact fun _ h => bNot h | exact fun h k => bAnd h k | exact fun h k => bAnd h (bNot k)) rfl ⟨rfl, rfl⟩) rfl rfl ?_
    | refine GM.read (fun w' hS => Step.lenS tb rfl (Op1.of rfl (by first | exact fun _ => rfl | exact fun h => h | exact fun h => bL h | exact fun h => bL (bL h) | exact fun h => bL (bL (bL h)))) rfl rfl ⟨rfl, rfl⟩) rfl rfl ?_
    | refine GM.read (fun w' hS => Step.un rfl (Op1.of rfl (by first | exact fun _ => rfl | exact fun h => h | exact fun h => bL h | exact fun h => bL (bL h) | exact fun h => bL (bL (bL h)))) rfl rfl ⟨rfl, rfl⟩) rfl rfl ?_
    | refine GM.read (fun w' hS => Step.extract rfl (Op1.of rfl (by first | exact fun _ => rfl | exact fun h => h | exact fun h => bL h | exact fun h => bL (bL h) | exact fun h => bL (bL (bL h)))) rfl rfl ⟨rfl, rfl⟩) rfl rfl ?_)
  have hstep := tw_step (p := fun y : Lab => Op.bytesLess y.1 x.1) ([], []) ls k hkl
  first | refine G.condD rfl (fun hc => ?_) (fun hc => ?_) | refine G.condN rfl (fun hc => ?_) (fun hc => ?_) | refine G.cond rfl (fun hc => ?_) (fun hc => ?_)
  · have hlt : k < lessN ls x.1 := by
      refine hstep.1 ?_
      simp only [Bool.and_eq_true, decide_eq_true_eq] at hc
      exact ⟨by omega, hc.2⟩
    have hll : lessN ls x.1 ≤ ls.length := (List.takeWhile_sublist _).length_le
    try (first | refine gl tb ?_ | refine gg tb ?_ | refine ll tb ?_ | refine lg tb ?_); repeat ((first | refine G.condT rfl ?_ | refine G.condF rfl ?_); try (first | refine gl tb ?_ | refine gg tb ?_ | refine ll tb ?_ | refine lg tb ?_))
    refine GL.cons (Step.arith rfl (Op1.of rfl (by first | exact fun _ => rfl | exact fun h => h | exact fun h => bL h | exact fun h => bL (bL h) | exact fun h => bL (bL (bL h)))) (Op1.of rfl (by first | exact fun _ => rfl | exact fun h => h | exact fun h => bL h | exact fun h => bL (bL h) | exact fun h => bL (bL (bL h)))) (wrap_i64 (by omega) (by omega)) rfl ?_)
    try (first | refine gl tb ?_ | refine gg tb ?_ | refine ll tb ?_ | refine lg tb ?_); repeat ((first | refine G.condT rfl ?_ | refine G.condF rfl ?_); try (first | refine gl tb ?_ | refine gg tb ?_ | refine ll tb ?_ | refine lg tb ?_))
    exact G.lp (k + 1) (by repeat (first | exact Sub.nil _ | refine Sub.cons rfl ?_)) ⟨hx2.trans (Ext.drew w2), by omega, by omega⟩ (by omega)
  · have hke : k = (ls.takeWhile fun y => Op.bytesLess y.1 x.1).length := by
      refine Nat.le_antisymm hkl (Nat.le_of_not_lt fun h => ?_)
      have := hstep.2 h
      rw [Bool.and_eq_false_iff] at hc
      rcases hc with hc | hc
      · simp at hc; omega
      · have h2 : Op.bytesLess (labAt ls k).1 x.1 = true := this.2
        rw [h2] at hc; cases hc
    have hxd : Ext w w2.drew := (hx1.trans hx2).trans (Ext.drew w2)
    have hsz : w.heap.size < w2.drew.heap.size := by have := hx2.size; simp only [World.size_drew]; omega
    have hv3 : Labs w2.drew v ls := hv2.to (Ext.drew w2)
    have hb3 := hb2.drew
    generalize w2.drew = w3 at *
    try (first | refine gl tb ?_ | refine gg tb ?_ | refine ll tb ?_ | refine lg tb ?_); repeat ((first | refine G.condT rfl ?_ | refine G.condF rfl ?_); try (first | refine gl tb ?_ | refine gg tb ?_ | refine ll tb ?_ | refine lg tb ?_))
    refine GL.cons (Step.buildSlice tb ([]) rfl rfl rfl rfl rfl rfl (by rfl) rfl (by rfl) (by rfl) (by rfl) (by simp) rfl ?_)
    intro s1 w4 ho1 hs4 hx4
    try (first | refine gl tb ?_ | refine gg tb ?_ | refine ll tb ?_ | refine lg tb ?_); repeat ((first | refine G.condT rfl ?_ | refine G.condF rfl ?_); try (first | refine gl tb ?_ | refine gg tb ?_ | refine ll tb ?_ | refine lg tb ?_))
    refine GL.cons (Step.sliceVh tb k rfl (Op1.of rfl (by first | exact fun _ => rfl | exact fun h => h | exact fun h => bL h | exact fun h => bL (bL h) | exact fun h => bL (bL (bL h)))) (Op1.of rfl (by first | exact fun _ => rfl | exact fun h => h | exact fun h => bL h | exact fun h => bL (bL h) | exact fun h => bL (bL (bL h)))) rfl rfl (fun _ => ⟨_, hv3⟩) (fun _ => ⟨rfl, by rw [List.length_map]; omega⟩) rfl ?_)
    have hsub := Labs.sub (hv3.to hx4) (Nat.zero_le k) hk
    have ho1' := ho1.mono (B' := w.heap.size) (by omega)
    refine GL.cons (Step.append tb rfl (Op1.of rfl (by first | exact fun _ => rfl | exact fun h => h | exact fun h => bL h | exact fun h => bL (bL h) | exact fun h => bL (bL (bL h)))) (Op1.of rfl (by first | exact fun _ => rfl | exact fun h => h | exact fun h => bL h | exact fun h => bL (bL h) | exact fun h => bL (bL (bL h)))) rfl rfl rfl (by rfl) (ho1') (hsub) (lab1 _) (by simp only [List.length_map, List.length_append, List.length_cons, List.length_nil, List.length_take, List.length_drop]; omega) (by simp only [List.length_map, List.length_append, List.length_cons, List.length_nil, List.length_take, List.length_drop]; omega) (by omega) rfl ?_)
    intro s2 w5 ho2 hg5
    have hx5 : Ext w w5 := hg5.below _ (hxd.trans hx4)
    have hb5 : Bx w5 w.heap.size (labC x) := (hb3.to hx4).grew hg5 (ho1.ne hsz)
    try (first | refine gl tb ?_ | refine gg tb ?_ | refine ll tb ?_ | refine lg tb ?_); repeat ((first | refine G.condT rfl ?_ | refine G.condF rfl ?_); try (first | refine gl tb ?_ | refine gg tb ?_ | refine ll tb ?_ | refine lg tb ?_))
    refine GL.cons (Step.loadA tb rfl (Op1.of rfl (by first | exact fun _ => rfl | exact fun h => h | exact fun h => bL h | exact fun h => bL (bL h) | exact fun h => bL (bL (bL h)))) rfl rfl rfl (fun _ => hb5.cells) (fun _ => rfl) rfl ?_)
    refine GL.cons (Step.buildSlice tb ([labC x]) rfl rfl rfl rfl rfl rfl (by rfl) rfl (by rfl) (by rfl) (by rfl) (labLen [x]) rfl ?_)
    intro s3 w6 ho3 hs6 hx6
    refine GL.cons (Step.append tb rfl (Op1.of rfl (by first | exact fun _ => rfl | exact fun h => h | exact fun h => bL h | exact fun h => bL (bL h) | exact fun h => bL (bL (bL h)))) (Op1.of rfl (by first | exact fun _ => rfl | exact fun h => h | exact fun h => bL h | exact fun h => bL (bL h) | exact fun h => bL (bL (bL h)))) rfl rfl rfl (by rfl) (ho2.to hx6) (ho3.sli) (lab1 [x]) (by simp only [List.length_map, List.length_append, List.length_cons, List.length_nil, List.length_take, List.length_drop]; omega) (by simp only [List.length_map, List.length_append, List.length_cons, List.length_nil, List.length_take, List.length_drop]; omega) (by have := (hx5.trans hx6).size; omega) rfl ?_)
    intro s4 w7 ho4 hg7
    have hx7 : Ext w w7 := hg7.below _ (hx5.trans hx6)
    try (first | refine gl tb ?_ | refine gg tb ?_ | refine ll tb ?_ | refine lg tb ?_); repeat ((first | refine G.condT rfl ?_ | refine G.condF rfl ?_); try (first | refine gl tb ?_ | refine gg tb ?_ | refine ll tb ?_ | refine lg tb ?_))
    have hv7 := hv.to hx7
    refine GL.cons (Step.sliceVl tb k rfl (Op1.of rfl (by first | exact fun _ => rfl | exact fun h => h | exact fun h => bL h | exact fun h => bL (bL h) | exact fun h => bL (bL (bL h)))) (Op1.of rfl (by first | exact fun _ => rfl | exact fun h => h | exact fun h => bL h | exact fun h => bL (bL h) | exact fun h => bL (bL (bL h)))) rfl rfl (fun _ => ⟨_, hv7⟩) (fun _ => ⟨rfl, by rw [List.length_map]; omega⟩) rfl ?_)
    rw [List.length_map]
    have hsub2 := Labs.sub hv7 hk (Nat.le_refl _)
    refine GL.cons (Step.append tb rfl (Op1.of rfl (by first | exact fun _ => rfl | exact fun h => h | exact fun h => bL h | exact fun h => bL (bL h) | exact fun h => bL (bL (bL h)))) (Op1.of rfl (by first | exact fun _ => rfl | exact fun h => h | exact fun h => bL h | exact fun h => bL (bL h) | exact fun h => bL (bL (bL h)))) rfl rfl rfl (by rfl) (ho4) (hsub2) (lab1 _) (by simp only [List.length_map, List.length_append, List.length_cons, List.length_nil, List.length_take, List.length_drop]; omega) (by simp only [List.length_map, List.length_append, List.length_cons, List.length_nil, List.length_take, List.length_drop]; omega) (by have := hx7.size; omega) rfl ?_)
    intro s5 w8 ho5 hg8
    have hx8 : Ext w w8 := hg8.below _ hx7
    try (first | refine gl tb ?_ | refine gg tb ?_ | refine ll tb ?_ | refine lg tb ?_); repeat ((first | refine G.condT rfl ?_ | refine G.condF rfl ?_); try (first | refine gl tb ?_ | refine gg tb ?_ | refine ll tb ?_ | refine lg tb ?_))
    refine G.ret1 rfl rfl rfl rfl ?_
    refine ⟨?_, hx8⟩
    have e : [] ++ List.map labC ((ls.drop 0).take (k - 0)) ++ [labC x] ++ List.map labC ((ls.drop k).take (ls.length - k)) = (putL ls x).map labC := by
      have h1 : (ls.drop 0).take (k - 0) = ls.takeWhile fun y => Op.bytesLess y.1 x.1 := by rw [List.drop_zero, Nat.sub_zero, hke]; exact take_tw _ _
      have h2 : (ls.drop k).take (ls.length - k) = ls.dropWhile fun y => Op.bytesLess y.1 x.1 := by rw [List.take_of_length_le (by simp), hke]; exact drop_tw _ _
      rw [h1, h2]
      simp [putL]
    rw [← e]; exact ho5
end Go.Proofs.YtfffblopkaandaaDoor
open Go Go.Vg Go.RowKit Go.Proofs Go.Proofs.YtfffblopkaandaaDoor
namespace Go.Proofs.YtfffblopkaandaaDoor
set_option linter.unusedSimpArgs false

theorem u8n_le (s : List UInt8) (i n : Nat) (c l : Int) (hi : i ≤ s.length) : i + u8n s i n c l ≤ s.length := by
  unfold u8n
  by_cases h : s.length < i + n
  · rw [if_pos h]; exact hi
  · rw [if_neg h]
    split
    · exact hi
    · split
      · exact hi
      · omega
theorem u8len_le (s : List UInt8) (i : Nat) (hi : i ≤ s.length) : i + u8len s i ≤ s.length := by
  unfold u8len
  split
  · exact hi
  · exact u8n_le _ _ _ _ _ hi
def validGo (s : List UInt8) : Nat → Nat → Bool
  | 0, _ => true
  | m + 1, i => if s.length ≤ i then true else if u8len s i = 0 then false else validGo s m (i + u8len s i)
def validU (s : List UInt8) : Bool := validGo s s.length 0
theorem validGo_end (s : List UInt8) : ∀ (m i : Nat), s.length ≤ i → validGo s m i = true
  | 0, _, _ => rfl
  | m + 1, i, h => by rw [validGo, if_pos h]
theorem validGo_fuel (s : List UInt8) : ∀ (m k i : Nat), s.length - i ≤ m → s.length - i ≤ k → validGo s m i = validGo s k i := by
  intro m
  induction m with
  | zero => intro k i h _; rw [validGo_end s 0 i (by omega), validGo_end s k i (by omega)]
  | succ m ih =>
    intro k i h h2
    cases k with
    | zero => rw [validGo_end s 0 i (by omega), validGo_end s (m + 1) i (by omega)]
    | succ k =>
      simp only [validGo]
      by_cases he : s.length ≤ i
      · rw [if_pos he, if_pos he]
      · rw [if_neg he, if_neg he]
        by_cases hz : u8len s i = 0
        · rw [if_pos hz, if_pos hz]
        · rw [if_neg hz, if_neg hz]
          exact ih _ _ (by omega) (by omega)
theorem validGo_step {s : List UInt8} {i : Nat} (hi : i < s.length) (hz : u8len s i ≠ 0) : validGo s (s.length - i) i = validGo s (s.length - (i + u8len s i)) (i + u8len s i) := by
  rw [validGo_fuel s (s.length - i) ((s.length - i - 1) + 1) i (by omega) (by omega), validGo, if_neg (by omega), if_neg hz]
  exact validGo_fuel _ _ _ _ (by omega) (by omega)
theorem validGo_no {s : List UInt8} {i : Nat} (hi : i < s.length) (hz : u8len s i = 0) : validGo s (s.length - i) i = false := by
  rw [validGo_fuel s (s.length - i) ((s.length - i - 1) + 1) i (by omega) (by omega), validGo, if_neg (by omega), if_pos hz]

theorem valid_ok (s : List UInt8) (w : World) (hs : s.length ≤ 140737488355328) :
    Ret Tryd.prog 101 ⟨[S s]⟩ w fun v w' => v = .bool (validU s) ∧ Ext w w' := by
  refine ret_of_G Tryd.func101 rfl Tryd.ntmps101 rfl ?_
  simp only [argEnv]
  try (first | refine gl tb ?_ | refine gg tb ?_ | refine ll tb ?_ | refine lg tb ?_); repeat ((first | refine G.condT rfl ?_ | refine G.condF rfl ?_); try (first | refine gl tb ?_ | refine gg tb ?_ | refine ll tb ?_ | refine lg tb ?_))
  refine (G.loop (fun i : Nat => [(0, none, S s), (3, none, .int .i64 i)]) (fun i w' => w' = w ∧ i ≤ s.length ∧ validGo s (s.length - i) i = validU s) (fun i => s.length - i) 0 (by repeat (first | exact Sub.nil _ | refine Sub.cons rfl ?_)) ⟨rfl, by omega, rfl⟩ ?_)
  rintro i w ⟨rfl, hk, hto⟩
  try (first | refine gl tb ?_ | refine gg tb ?_ | refine ll tb ?_ | refine lg tb ?_); repeat ((first | refine G.condT rfl ?_ | refine G.condF rfl ?_); try (first | refine gl tb ?_ | refine gg tb ?_ | refine ll tb ?_ | refine lg tb ?_))
  first | refine G.condD rfl (fun hc => ?_) (fun hc => ?_) | refine G.condN rfl (fun hc => ?_) (fun hc => ?_) | refine G.cond rfl (fun hc => ?_) (fun hc => ?_)
  · have hlt : i < s.length := by omega
    try (first | refine gl tb ?_ | refine gg tb ?_ | refine ll tb ?_ | refine lg tb ?_); repeat ((first | refine G.condT rfl ?_ | refine G.condF rfl ?_); try (first | refine gl tb ?_ | refine gg tb ?_ | refine ll tb ?_ | refine lg tb ?_))
    refine GL.cons (Step.callF rfl rfl rfl c111 rfl (utf8_ok s i w hs hlt) ?_)
    rintro _ _ ⟨rfl, rfl⟩
    have hle := u8len_le s i hk
    try (first | refine gl tb ?_ | refine gg tb ?_ | refine ll tb ?_ | refine lg tb ?_); repeat ((first | refine G.condT rfl ?_ | refine G.condF rfl ?_); try (first | refine gl tb ?_ | refine gg tb ?_ | refine ll tb ?_ | refine lg tb ?_))
    first | refine G.condD rfl (fun hc => ?_) (fun hc => ?_) | refine G.condN rfl (fun hc => ?_) (fun hc => ?_) | refine G.cond rfl (fun hc => ?_) (fun hc => ?_)
    · try (first | refine gl tb ?_ | refine gg tb ?_ | refine ll tb ?_ | refine lg tb ?_); repeat ((first | refine G.condT rfl ?_ | refine G.condF rfl ?_); try (first | refine gl tb ?_ | refine gg tb ?_ | refine ll tb ?_ | refine lg tb ?_))
      refine G.ret1 rfl rfl rfl rfl ?_
      refine ⟨?_, Ext.refl _⟩
      rw [← hto, validGo_no hlt (by omega)]
    · try (first | refine gl tb ?_ | refine gg tb ?_ | refine ll tb ?_ | refine lg tb ?_); repeat ((first | refine G.condT rfl ?_ | refine G.condF rfl ?_); try (first | refine gl tb ?_ | refine gg tb ?_ | refine ll tb ?_ | refine lg tb ?_))
      refine GL.cons (Step.arith rfl (Op1.of rfl (by first | exact fun _ => rfl | exact fun h => h | exact fun h => bL h | exact fun h => bL (bL h) | exact fun h => bL (bL (bL h)))) (Op1.of rfl (by first | exact fun _ => rfl | exact fun h => h | exact fun h => bL h | exact fun h => bL (bL h) | exact fun h => bL (bL (bL h)))) (wrap_i64 (by omega) (by omega)) rfl ?_)
      try (first | refine gl tb ?_ | refine gg tb ?_ | refine ll tb ?_ | refine lg tb ?_); repeat ((first | refine G.condT rfl ?_ | refine G.condF rfl ?_); try (first | refine gl tb ?_ | refine gg tb ?_ | refine ll tb ?_ | refine lg tb ?_))
      refine G.lp (i + u8len s i) (by repeat (first | exact Sub.nil _ | refine Sub.cons rfl ?_)) ⟨rfl, hle, ?_⟩ (by omega)
      rw [← hto, validGo_step hlt (by omega)]
  · try (first | refine gl tb ?_ | refine gg tb ?_ | refine ll tb ?_ | refine lg tb ?_); repeat ((first | refine G.condT rfl ?_ | refine G.condF rfl ?_); try (first | refine gl tb ?_ | refine gg tb ?_ | refine ll tb ?_ | refine lg tb ?_))
    refine G.ret1 rfl rfl rfl rfl ?_
    refine ⟨?_, Ext.refl _⟩
    rw [← hto, validGo_end _ _ _ (by omega)]

def rightV (s : List UInt8) : Bool := decide ((s.length : Int) ≤ 1024) && validU s
theorem refValue_ok (s : List UInt8) (w : World) (hs : s.length ≤ 9223372036854775807) :
    Ret Tryd.prog 82 ⟨[S s]⟩ w fun v w' => v = .bool (rightV s) ∧ Ext w w' := by
  refine ret_of_G Tryd.func82 rfl Tryd.ntmps82 rfl ?_
  simp only [argEnv]
  try (first | refine gl tb ?_ | refine gg tb ?_ | refine ll tb ?_ | refine lg tb ?_); repeat ((first | refine G.condT rfl ?_ | refine G.condF rfl ?_); try (first | refine gl tb ?_ | refine gg tb ?_ | refine ll tb ?_ | refine lg tb ?_))
  refine GL.cons (Step.callX rfl rfl (by repeat (first | exact OpL.nil | refine OpL.cons (Op1.of rfl (by first | exact fun _ => rfl | exact fun h => h | exact fun h => bL h | exact fun h => bL (bL h) | exact fun h => bL (bL (bL h)))) ?_)) c101 rfl (fun hc => valid_ok s w (by have := of_decide_eq_true hc; omega)) ?_)
  intro w1 hx
  try (first | refine gl tb ?_ | refine gg tb ?_ | refine ll tb ?_ | refine lg tb ?_); repeat ((first | refine G.condT rfl ?_ | refine G.condF rfl ?_); try (first | refine gl tb ?_ | refine gg tb ?_ | refine ll tb ?_ | refine lg tb ?_))
  refine G.ret1 rfl rfl rfl rfl ?_
  exact ⟨rfl, hx⟩

def Sz (s : List UInt8) : Prop := s.length ≤ 9223372036854775807
def LabSz (x : Lab) : Prop := Sz x.1 ∧ Sz x.2
def nameS : List UInt8 := [95, 95, 110, 97, 109, 101, 95, 95]
/-- may a label be in a set, but for an empty value? -/
def fairB (x : Lab) : Bool := (namedB false x.1 && rightV x.2) && (!decide (x.1 = nameS) || decide (x.2 = []) || namedB true x.2)
theorem fair_ok (x : Lab) (w : World) (hx : LabSz x) :
    Ret Tryd.prog 59 ⟨[.agg ⟨labC x⟩]⟩ w fun v w' => v = .bool (fairB x) ∧ Ext w w' := by
  refine ret_of_G Tryd.func59 rfl Tryd.ntmps59 rfl ?_
  simp only [argEnv]
  try (first | refine gl tb ?_ | refine gg tb ?_ | refine ll tb ?_ | refine lg tb ?_); repeat ((first | refine G.condT rfl ?_ | refine G.condF rfl ?_); try (first | refine gl tb ?_ | refine gg tb ?_ | refine ll tb ?_ | refine lg tb ?_))
  refine GL.cons (Step.box rfl (Op1.of rfl (by first | exact fun _ => rfl | exact fun h => h | exact fun h => bL h | exact fun h => bL (bL h) | exact fun h => bL (bL (bL h)))) (rfl) rfl ?_)
  intro w1 hb1 hs1 hx1
  try (first | refine gl tb ?_ | refine gg tb ?_ | refine ll tb ?_ | refine lg tb ?_); repeat ((first | refine G.condT rfl ?_ | refine G.condF rfl ?_); try (first | refine gl tb ?_ | refine gg tb ?_ | refine ll tb ?_ | refine lg tb ?_))
  refine GL.cons (Step.fieldAddr tb rfl (Op1.of rfl (by first | exact fun _ => rfl | exact fun h => h | exact fun h => bL h | exact fun h => bL (bL h) | exact fun h => bL (bL (bL h)))) rfl rfl rfl rfl (fun _ => (hb1.cells).ptr) rfl ?_); refine GL.cons (Step.load1 tb rfl (Op1.of rfl (by first | exact fun _ => rfl | exact fun h => h | exact fun h => bL h | exact fun h => bL (bL h) | exact fun h => bL (bL (bL h)))) rfl rfl (fun _ => (hb1.cells).cell (i := 0) rfl) rfl ?_)
  refine GL.cons (Step.callX rfl rfl (by repeat (first | exact OpL.nil | refine OpL.cons (Op1.of rfl (by first | exact fun _ => rfl | exact fun h => h | exact fun h => bL h | exact fun h => bL (bL h) | exact fun h => bL (bL (bL h)))) ?_)) c27 rfl (fun hc => refName_ok x.1 w1 hx.1) ?_)
  intro w2 hx2
  have hb2 := hb1.to hx2
  try (first | refine gl tb ?_ | refine gg tb ?_ | refine ll tb ?_ | refine lg tb ?_); repeat ((first | refine G.condT rfl ?_ | refine G.condF rfl ?_); try (first | refine gl tb ?_ | refine gg tb ?_ | refine ll tb ?_ | refine lg tb ?_))
  refine GL.cons (Step.fieldAddr tb rfl (Op1.of rfl (by first | exact fun _ => rfl | exact fun h => h | exact fun h => bL h | exact fun h => bL (bL h) | exact fun h => bL (bL (bL h)))) rfl rfl rfl rfl (fun _ => (hb2.cells).ptr) rfl ?_); refine GL.cons (Step.load1 tb rfl (Op1.of rfl (by first | exact fun _ => rfl | exact fun h => h | exact fun h => bL h | exact fun h => bL (bL h) | exact fun h => bL (bL (bL h)))) rfl rfl (fun _ => (hb2.cells).cell (i := 1) rfl) rfl ?_)
  refine GL.cons (Step.callX rfl rfl (by repeat (first | exact OpL.nil | refine OpL.cons (Op1.of rfl (by first | exact fun _ => rfl | exact fun h => h | exact fun h => bL h | exact fun h => bL (bL h) | exact fun h => bL (bL (bL h)))) ?_)) c82 rfl (fun hc => refValue_ok x.2 w2 hx.2) ?_)
  intro w3 hx3
  have hb3 := hb2.to hx3
  try (first | refine gl tb ?_ | refine gg tb ?_ | refine ll tb ?_ | refine lg tb ?_); repeat ((first | refine G.condT rfl ?_ | refine G.condF rfl ?_); try (first | refine gl tb ?_ | refine gg tb ?_ | refine ll tb ?_ | refine lg tb ?_))
  refine GL.cons (Step.fieldAddr tb rfl (Op1.of rfl (by first | exact fun _ => rfl | exact fun h => h | exact fun h => bL h | exact fun h => bL (bL h) | exact fun h => bL (bL (bL h)))) rfl rfl rfl rfl (fun _ => (hb3.cells).ptr) rfl ?_); refine GL.cons (Step.load1 tb rfl (Op1.of rfl (by first | exact fun _ => rfl | exact fun h => h | exact fun h => bL h | exact fun h => bL (bL h) | exact fun h => bL (bL (bL h)))) rfl rfl (fun _ => (hb3.cells).cell (i := 0) rfl) rfl ?_)
  try (first | refine gl tb ?_ | refine gg tb ?_ | refine ll tb ?_ | refine lg tb ?_); repeat ((first | refine G.condT rfl ?_ | refine G.condF rfl ?_); try (first | refine gl tb ?_ | refine gg tb ?_ | refine ll tb ?_ | refine lg tb ?_))
  refine GL.cons (Step.fieldAddr tb rfl (Op1.of rfl (by first | exact fun _ => rfl | exact fun h => h | exact fun h => bL h | exact fun h => bL (bL h) | exact fun h => bL (bL (bL h)))) rfl rfl rfl rfl (fun _ => (hb3.cells).ptr) rfl ?_); refine GL.cons (Step.load1 tb rfl (Op1.of rfl (by first | exact fun _ => rfl | exact fun h => h | exact fun h => bL h | exact fun h => bL (bL h) | exact fun h => bL (bL (bL h)))) rfl rfl (fun _ => (hb3.cells).cell (i := 1) rfl) rfl ?_)
  try (first | refine gl tb ?_ | refine gg tb ?_ | refine ll tb ?_ | refine lg tb ?_); repeat ((first | refine G.condT rfl ?_ | refine G.condF rfl ?_); try (first | refine gl tb ?_ | refine gg tb ?_ | refine ll tb ?_ | refine lg tb ?_))
  refine GL.cons (Step.fieldAddr tb rfl (Op1.of rfl (by first | exact fun _ => rfl | exact fun h => h | exact fun h => bL h | exact fun h => bL (bL h) | exact fun h => bL (bL (bL h)))) rfl rfl rfl rfl (fun _ => (hb3.cells).ptr) rfl ?_); refine GL.cons (Step.load1 tb rfl (Op1.of rfl (by first | exact fun _ => rfl | exact fun h => h | exact fun h => bL h | exact fun h => bL (bL h) | exact fun h => bL (bL (bL h)))) rfl rfl (fun _ => (hb3.cells).cell (i := 1) rfl) rfl ?_)
  refine GL.cons (Step.callX rfl rfl (by repeat (first | exact OpL.nil | refine OpL.cons (Op1.of rfl (by first | exact fun _ => rfl | exact fun h => h | exact fun h => bL h | exact fun h => bL (bL h) | exact fun h => bL (bL (bL h)))) ?_)) c29 rfl (fun hc => refMetric_ok x.2 w3 hx.2) ?_)
  intro w4 hx4
  try (first | refine gl tb ?_ | refine gg tb ?_ | refine ll tb ?_ | refine lg tb ?_); repeat ((first | refine G.condT rfl ?_ | refine G.condF rfl ?_); try (first | refine gl tb ?_ | refine gg tb ?_ | refine ll tb ?_ | refine lg tb ?_))
  refine G.ret1 rfl rfl rfl rfl ?_
  exact ⟨rfl, ((hx1.trans hx2).trans hx3).trans hx4⟩
end Go.Proofs.YtfffblopkaandaaDoor
open Go Go.Vg Go.RowKit Go.Proofs Go.Proofs.YtfffblopkaandaaDoor
namespace Go.Proofs.YtfffblopkaandaaDoor
set_option linter.unusedSimpArgs false

abbrev LO (w : World) (B : Nat) (v : Value) (ls : List Lab) : Prop := Owns w B v 28 2 (ls.map labC)
def stepN (s : List Lab × Bool) (x : Lab) : List Lab × Bool := if x.2 = [] then s else (putL s.1 x, s.2 || hasL s.1 x.1)
def foldN (ls : List Lab) : List Lab × Bool := ls.foldl stepN ([], false)
def newR (ls : List Lab) : Int × List Lab :=
  if ls.all fairB = true then (if (foldN ls).2 = true then (13, []) else if 64 < (foldN ls).1.length then (15, []) else (0, (foldN ls).1)) else (2, [])
theorem putL_len (l : List Lab) (x : Lab) : (putL l x).length = l.length + 1 := by
  have := congrArg List.length (List.takeWhile_append_dropWhile (p := fun y => Op.bytesLess y.1 x.1) (l := l))
  simp only [List.length_append] at this
  simp only [putL, List.length_append, List.length_cons]; omega
theorem foldN_snoc (ls : List Lab) (x : Lab) : foldN (ls ++ [x]) = stepN (foldN ls) x := by simp [foldN]
theorem stepN_len (s : List Lab × Bool) (x : Lab) : (stepN s x).1.length ≤ s.1.length + 1 := by
  unfold stepN; split
  · omega
  · simp only [putL_len]; omega
theorem foldN_len (ls : List Lab) : (foldN ls).1.length ≤ ls.length := by
  unfold foldN
  suffices ∀ (l : List Lab) s, (l.foldl stepN s).1.length ≤ s.1.length + l.length by simpa using this ls ([], false)
  intro l
  induction l with
  | nil => intro s; simp
  | cons a r ih => intro s; simp only [List.foldl_cons, List.length_cons]; have := ih (stepN s a); have := stepN_len s a; omega
theorem Labs.at {ls : List Lab} {k : Nat} (h : k < ls.length) : ∃ x, x ∈ ls ∧ (ls.map labC)[k]? = some (labC x) ∧ ls.take (k + 1) = ls.take k ++ [x] ∧ ls.drop k = x :: ls.drop (k + 1) ∧ ls[k]? = some x :=
  ⟨ls[k], List.getElem_mem h, by simp [h], by rw [List.take_succ_eq_append_getElem h], List.drop_eq_getElem_cons h, by simp [h]⟩
theorem take_snoc {α : Type} {l : List α} {k : Nat} (h : k < l.length) : l.take (k + 1) = l.take k ++ [l[k]] := by rw [List.take_succ_eq_append_getElem h]

theorem refNew_ok (v : Value) (ls : List Lab) (w : World) (hv : Labs w v ls) (hn : ls.length ≤ 1000) (hz : ∀ x ∈ ls, LabSz x) :
    Ret Tryd.prog 19 ⟨[v]⟩ w fun r w' => ∃ s, r = .tuple ⟨[s, .int .i64 (newR ls).1]⟩ ∧ LO w' w.heap.size s (newR ls).2 ∧ Ext w w' := by
  have hbd := Labs.bound hv
  refine ret_of_G Tryd.func19 rfl Tryd.ntmps19 rfl ?_
  simp only [argEnv]
  try (first | refine gl tb ?_ | refine gg tb ?_ | refine ll tb ?_ | refine lg tb ?_); repeat ((first | refine G.condT rfl ?_ | refine G.condF rfl ?_); try (first | refine gl tb ?_ | refine gg tb ?_ | refine ll tb ?_ | refine lg tb ?_))
  refine (G.loop (fun k : Nat => [(0, none, v), (4, none, .int .i64 k)]) (fun k w' => Ext w w' ∧ k ≤ ls.length ∧ (ls.take k).all fairB = true) (fun k => ls.length - k) 0 (by repeat (first | exact Sub.nil _ | refine Sub.cons rfl ?_)) ⟨Ext.refl _, by omega, rfl⟩ ?_)
  rintro k w1 ⟨hx1, hk, hto⟩
  have hv1 := hv.to hx1
  try (first | refine gl tb ?_ | refine gg tb ?_ | refine ll tb ?_ | refine lg tb ?_); repeat ((first | refine G.condT rfl ?_ | refine G.condF rfl ?_); try (first | refine gl tb ?_ | refine gg tb ?_ | refine ll tb ?_ | refine lg tb ?_))
  refine GL.cons (Step.lenV tb rfl (Op1.of rfl (by first | exact fun _ => rfl | exact fun h => h | exact fun h => bL h | exact fun h => bL (bL h) | exact fun h => bL (bL (bL h)))) rfl (fun _ => ⟨_, hv1⟩) rfl ?_)
  simp only [List.length_map]
  try (first | refine gl tb ?_ | refine gg tb ?_ | refine ll tb ?_ | refine lg tb ?_); repeat ((first | refine G.condT rfl ?_ | refine G.condF rfl ?_); try (first | refine gl tb ?_ | refine gg tb ?_ | refine ll tb ?_ | refine lg tb ?_))
  first | refine G.condD rfl (fun hc => ?_) (fun hc => ?_) | refine G.condN rfl (fun hc => ?_) (fun hc => ?_) | refine G.cond rfl (fun hc => ?_) (fun hc => ?_)
  · have hlt : k < ls.length := by omega
    obtain ⟨x, hmem, hget, htk, -, -⟩ := Labs.at hlt
    try (first | refine gl tb ?_ | refine gg tb ?_ | refine ll tb ?_ | refine lg tb ?_); repeat ((first | refine G.condT rfl ?_ | refine G.condF rfl ?_); try (first | refine gl tb ?_ | refine gg tb ?_ | refine ll tb ?_ | refine lg tb ?_))
    refine GL.cons (Step.indexAddr tb k rfl (Op1.of rfl (by first | exact fun _ => rfl | exact fun h => h | exact fun h => bL h | exact fun h => bL (bL h) | exact fun h => bL (bL (bL h)))) (Op1.of rfl (by first | exact fun _ => rfl | exact fun h => h | exact fun h => bL h | exact fun h => bL (bL h) | exact fun h => bL (bL (bL h)))) rfl rfl (fun _ => ⟨_, hv1⟩) (fun _ => ⟨by omega, by simpa using hlt⟩) rfl ?_)
    refine GL.cons (Step.loadA tb rfl (Op1.of rfl (by first | exact fun _ => rfl | exact fun h => h | exact fun h => bL h | exact fun h => bL (bL h) | exact fun h => bL (bL (bL h)))) rfl rfl rfl (fun _ => hv1.elem hget) (fun _ => rfl) rfl ?_)
    refine GL.cons (Step.callX rfl rfl (by repeat (first | exact OpL.nil | refine OpL.cons (Op1.of rfl (by first | exact fun _ => rfl | exact fun h => h | exact fun h => bL h | exact fun h => bL (bL h) | exact fun h => bL (bL (bL h)))) ?_)) c59 rfl (fun hc => fair_ok x w1 (hz _ hmem)) ?_)
    intro w2 hx2
    try (first | refine gl tb ?_ | refine gg tb ?_ | refine ll tb ?_ | refine lg tb ?_); repeat ((first | refine G.condT rfl ?_ | refine G.condF rfl ?_); try (first | refine gl tb ?_ | refine gg tb ?_ | refine ll tb ?_ | refine lg tb ?_))
    first | refine G.condD rfl (fun hc => ?_) (fun hc => ?_) | refine G.condN rfl (fun hc => ?_) (fun hc => ?_) | refine G.cond rfl (fun hc => ?_) (fun hc => ?_)
    · try (first | refine gl tb ?_ | refine gg tb ?_ | refine ll tb ?_ | refine lg tb ?_); repeat ((first | refine G.condT rfl ?_ | refine G.condF rfl ?_); try (first | refine gl tb ?_ | refine gg tb ?_ | refine ll tb ?_ | refine lg tb ?_))
      refine G.ret2 rfl rfl rfl rfl rfl ?_
      have : newR ls = (2, []) := by
        unfold newR; rw [if_neg]
        intro h
        have := List.all_eq_true.1 h x hmem
        rw [this] at hc; cases hc
      rw [this]
      exact ⟨_, rfl, Owns.nil _ _ _ _, hx1.trans hx2⟩
    · try (first | refine gl tb ?_ | refine gg tb ?_ | refine ll tb ?_ | refine lg tb ?_); repeat ((first | refine G.condT rfl ?_ | refine G.condF rfl ?_); try (first | refine gl tb ?_ | refine gg tb ?_ | refine ll tb ?_ | refine lg tb ?_))
      refine GL.cons (Step.arith rfl (Op1.of rfl (by first | exact fun _ => rfl | exact fun h => h | exact fun h => bL h | exact fun h => bL (bL h) | exact fun h => bL (bL (bL h)))) (Op1.of rfl (by first | exact fun _ => rfl | exact fun h => h | exact fun h => bL h | exact fun h => bL (bL h) | exact fun h => bL (bL (bL h)))) (wrap_i64 (by omega) (by omega)) rfl ?_)
      try (first | refine gl tb ?_ | refine gg tb ?_ | refine ll tb ?_ | refine lg tb ?_); repeat ((first | refine G.condT rfl ?_ | refine G.condF rfl ?_); try (first | refine gl tb ?_ | refine gg tb ?_ | refine ll tb ?_ | refine lg tb ?_))
      refine G.lp (k + 1) (by repeat (first | exact Sub.nil _ | refine Sub.cons rfl ?_)) ⟨hx1.trans hx2, by omega, ?_⟩ (by omega)
      rw [htk, List.all_append, hto]
      simpa using hc
  · have hke : k = ls.length := by omega
    subst hke
    rw [List.take_length] at hto
    try (first | refine gl tb ?_ | refine gg tb ?_ | refine ll tb ?_ | refine lg tb ?_); repeat ((first | refine G.condT rfl ?_ | refine G.condF rfl ?_); try (first | refine gl tb ?_ | refine gg tb ?_ | refine ll tb ?_ | refine lg tb ?_))
    refine (G.loop (fun x : Nat × Value => [(0, none, v), (5, none, x.2), (6, none, .bool (foldN (ls.take x.1)).2), (7, none, .int .i64 x.1)]) (fun x w' => Ext w w' ∧ x.1 ≤ ls.length ∧ LO w' w.heap.size x.2 (foldN (ls.take x.1)).1) (fun x => ls.length - x.1) (0, .slice none 0 0) (by repeat (first | exact Sub.nil _ | refine Sub.cons rfl ?_)) ⟨hx1, by simp, Owns.nil _ _ _ _⟩ ?_)
    rintro ⟨k, s⟩ w2 ⟨hx2, hk, ho⟩
    simp only at hk ho ⊢
    have hv2 := hv.to hx2
    try (first | refine gl tb ?_ | refine gg tb ?_ | refine ll tb ?_ | refine lg tb ?_); repeat ((first | refine G.condT rfl ?_ | refine G.condF rfl ?_); try (first | refine gl tb ?_ | refine gg tb ?_ | refine ll tb ?_ | refine lg tb ?_))
    refine GL.cons (Step.lenV tb rfl (Op1.of rfl (by first | exact fun _ => rfl | exact fun h => h | exact fun h => bL h | exact fun h => bL (bL h) | exact fun h => bL (bL (bL h)))) rfl (fun _ => ⟨_, hv2⟩) rfl ?_)
    simp only [List.length_map]
    try (first | refine gl tb ?_ | refine gg tb ?_ | refine ll tb ?_ | refine lg tb ?_); repeat ((first | refine G.condT rfl ?_ | refine G.condF rfl ?_); try (first | refine gl tb ?_ | refine gg tb ?_ | refine ll tb ?_ | refine lg tb ?_))
    first | refine G.condD rfl (fun hc => ?_) (fun hc => ?_) | refine G.condN rfl (fun hc => ?_) (fun hc => ?_) | refine G.cond rfl (fun hc => ?_) (fun hc => ?_)
    · have hlt : k < ls.length := by omega
      obtain ⟨x, hmem, hget, htk, -, -⟩ := Labs.at hlt
      have hsn : foldN (ls.take (k + 1)) = stepN (foldN (ls.take k)) x := by rw [htk, foldN_snoc]
      try (first | refine gl tb ?_ | refine gg tb ?_ | refine ll tb ?_ | refine lg tb ?_); repeat ((first | refine G.condT rfl ?_ | refine G.condF rfl ?_); try (first | refine gl tb ?_ | refine gg tb ?_ | refine ll tb ?_ | refine lg tb ?_))
      refine GL.cons (Step.indexAddr tb k rfl (Op1.of rfl (by first | exact fun _ => rfl | exact fun h => h | exact fun h => bL h | exact fun h => bL (bL h) | exact fun h => bL (bL (bL h)))) (Op1.of rfl (by first | exact fun _ => rfl | exact fun h => h | exact fun h => bL h | exact fun h => bL (bL h) | exact fun h => bL (bL (bL h)))) rfl rfl (fun _ => ⟨_, hv2⟩) (fun _ => ⟨by omega, by simpa using hlt⟩) rfl ?_)
      refine GL.cons (Step.fieldAddr tb rfl (Op1.of rfl (by first | exact fun _ => rfl | exact fun h => h | exact fun h => bL h | exact fun h => bL (bL h) | exact fun h => bL (bL (bL h)))) rfl rfl rfl rfl (fun _ => (hv2.elem hget).ptr) rfl ?_); refine GL.cons (Step.load1 tb rfl (Op1.of rfl (by first | exact fun _ => rfl | exact fun h => h | exact fun h => bL h | exact fun h => bL (bL h) | exact fun h => bL (bL (bL h)))) rfl rfl (fun _ => (hv2.elem hget).cell (i := 1) rfl) rfl ?_)
      try (first | refine gl tb ?_ | refine gg tb ?_ | refine ll tb ?_ | refine lg tb ?_); repeat ((first | refine G.condT rfl ?_ | refine G.condF rfl ?_); try (first | refine gl tb ?_ | refine gg tb ?_ | refine ll tb ?_ | refine lg tb ?_))
      first | refine G.condD rfl (fun hc => ?_) (fun hc => ?_) | refine G.condN rfl (fun hc => ?_) (fun hc => ?_) | refine G.cond rfl (fun hc => ?_) (fun hc => ?_)
      · have hst : stepN (foldN (ls.take k)) x = foldN (ls.take k) := by unfold stepN; rw [if_pos (by simpa using hc)]
        rw [hst] at hsn
        try (first | refine gl tb ?_ | refine gg tb ?_ | refine ll tb ?_ | refine lg tb ?_); repeat ((first | refine G.condT rfl ?_ | refine G.condF rfl ?_); try (first | refine gl tb ?_ | refine gg tb ?_ | refine ll tb ?_ | refine lg tb ?_))
        refine GL.cons (Step.arith rfl (Op1.of rfl (by first | exact fun _ => rfl | exact fun h => h | exact fun h => bL h | exact fun h => bL (bL h) | exact fun h => bL (bL (bL h)))) (Op1.of rfl (by first | exact fun _ => rfl | exact fun h => h | exact fun h => bL h | exact fun h => bL (bL h) | exact fun h => bL (bL (bL h)))) (wrap_i64 (by omega) (by omega)) rfl ?_)
        try (first | refine gl tb ?_ | refine gg tb ?_ | refine ll tb ?_ | refine lg tb ?_); repeat ((first | refine G.condT rfl ?_ | refine G.condF rfl ?_); try (first | refine gl tb ?_ | refine gg tb ?_ | refine ll tb ?_ | refine lg tb ?_))
        exact G.lp (x := (k, s)) (k + 1, s) (by simp only [hsn]; exact (by repeat (first | exact Sub.nil _ | refine Sub.cons rfl ?_))) ⟨hx2, by simp only; omega, by simp only [hsn]; exact ho⟩ (by simp only; omega)
      · have hst : stepN (foldN (ls.take k)) x = (putL (foldN (ls.take k)).1 x, (foldN (ls.take k)).2 || hasL (foldN (ls.take k)).1 x.1) := by unfold stepN; rw [if_neg (by simpa using hc)]
        rw [hst] at hsn
        have hfl := foldN_len (ls.take k)
        rw [List.length_take] at hfl
        try (first | refine gl tb ?_ | refine gg tb ?_ | refine ll tb ?_ | refine lg tb ?_); repeat ((first | refine G.condT rfl ?_ | refine G.condF rfl ?_); try (first | refine gl tb ?_ | refine gg tb ?_ | refine ll tb ?_ | refine lg tb ?_))
        refine GL.cons (Step.indexAddr tb k rfl (Op1.of rfl (by first | exact fun _ => rfl | exact fun h => h | exact fun h => bL h | exact fun h => bL (bL h) | exact fun h => bL (bL (bL h)))) (Op1.of rfl (by first | exact fun _ => rfl | exact fun h => h | exact fun h => bL h | exact fun h => bL (bL h) | exact fun h => bL (bL (bL h)))) rfl rfl (fun _ => ⟨_, hv2⟩) (fun _ => ⟨by omega, by simpa using hlt⟩) rfl ?_)
        refine GL.cons (Step.fieldAddr tb rfl (Op1.of rfl (by first | exact fun _ => rfl | exact fun h => h | exact fun h => bL h | exact fun h => bL (bL h) | exact fun h => bL (bL (bL h)))) rfl rfl rfl rfl (fun _ => (hv2.elem hget).ptr) rfl ?_); refine GL.cons (Step.load1 tb rfl (Op1.of rfl (by first | exact fun _ => rfl | exact fun h => h | exact fun h => bL h | exact fun h => bL (bL h) | exact fun h => bL (bL (bL h)))) rfl rfl (fun _ => (hv2.elem hget).cell (i := 0) rfl) rfl ?_)
        refine GL.cons (Step.callX rfl rfl (by repeat (first | exact OpL.nil | refine OpL.cons (Op1.of rfl (by first | exact fun _ => rfl | exact fun h => h | exact fun h => bL h | exact fun h => bL (bL h) | exact fun h => bL (bL (bL h)))) ?_)) c60 rfl (fun hc => (has_ok s _ x.1 w2 ho.sli).mono fun _ _ h => ⟨h.1, h.2 ▸ Ext.refl _⟩) ?_)
        intro w3 hx3
        have hv3 := hv2.to hx3
        try (first | refine gl tb ?_ | refine gg tb ?_ | refine ll tb ?_ | refine lg tb ?_); repeat ((first | refine G.condT rfl ?_ | refine G.condF rfl ?_); try (first | refine gl tb ?_ | refine gg tb ?_ | refine ll tb ?_ | refine lg tb ?_))
        refine GL.cons (Step.indexAddr tb k rfl (Op1.of rfl (by first | exact fun _ => rfl | exact fun h => h | exact fun h => bL h | exact fun h => bL (bL h) | exact fun h => bL (bL (bL h)))) (Op1.of rfl (by first | exact fun _ => rfl | exact fun h => h | exact fun h => bL h | exact fun h => bL (bL h) | exact fun h => bL (bL (bL h)))) rfl rfl (fun _ => ⟨_, hv3⟩) (fun _ => ⟨by omega, by simpa using hlt⟩) rfl ?_)
        refine GL.cons (Step.loadA tb rfl (Op1.of rfl (by first | exact fun _ => rfl | exact fun h => h | exact fun h => bL h | exact fun h => bL (bL h) | exact fun h => bL (bL (bL h)))) rfl rfl rfl (fun _ => hv3.elem hget) (fun _ => rfl) rfl ?_)
        refine GL.cons (Step.callF rfl rfl rfl c61 rfl (put_ok s _ x w3 (ho.to hx3).sli (by omega)) ?_)
        rintro r w4 ⟨ho4, hx4⟩
        try (first | refine gl tb ?_ | refine gg tb ?_ | refine ll tb ?_ | refine lg tb ?_); repeat ((first | refine G.condT rfl ?_ | refine G.condF rfl ?_); try (first | refine gl tb ?_ | refine gg tb ?_ | refine ll tb ?_ | refine lg tb ?_))
        refine GL.cons (Step.arith rfl (Op1.of rfl (by first | exact fun _ => rfl | exact fun h => h | exact fun h => bL h | exact fun h => bL (bL h) | exact fun h => bL (bL (bL h)))) (Op1.of rfl (by first | exact fun _ => rfl | exact fun h => h | exact fun h => bL h | exact fun h => bL (bL h) | exact fun h => bL (bL (bL h)))) (wrap_i64 (by omega) (by omega)) rfl ?_)
        try (first | refine gl tb ?_ | refine gg tb ?_ | refine ll tb ?_ | refine lg tb ?_); repeat ((first | refine G.condT rfl ?_ | refine G.condF rfl ?_); try (first | refine gl tb ?_ | refine gg tb ?_ | refine ll tb ?_ | refine lg tb ?_))
        have hx14 := (hx2.trans hx3)
        exact G.lp (x := (k, s)) (k + 1, r) (by simp only [hsn]; exact (by repeat (first | exact Sub.nil _ | refine Sub.cons rfl ?_))) ⟨hx14.trans hx4, by simp only; omega, by simp only [hsn]; exact ho4.mono hx14.size⟩ (by simp only; omega)
    · have hke : k = ls.length := by omega
      subst hke
      rw [List.take_length] at ho
      try (first | refine gl tb ?_ | refine gg tb ?_ | refine ll tb ?_ | refine lg tb ?_); repeat ((first | refine G.condT rfl ?_ | refine G.condF rfl ?_); try (first | refine gl tb ?_ | refine gg tb ?_ | refine ll tb ?_ | refine lg tb ?_))
      rw [List.take_length]
      first | refine G.condD rfl (fun hc => ?_) (fun hc => ?_) | refine G.condN rfl (fun hc => ?_) (fun hc => ?_) | refine G.cond rfl (fun hc => ?_) (fun hc => ?_)
      · try (first | refine gl tb ?_ | refine gg tb ?_ | refine ll tb ?_ | refine lg tb ?_); repeat ((first | refine G.condT rfl ?_ | refine G.condF rfl ?_); try (first | refine gl tb ?_ | refine gg tb ?_ | refine ll tb ?_ | refine lg tb ?_))
        refine G.ret2 rfl rfl rfl rfl rfl ?_
        have : newR ls = (13, []) := by unfold newR; rw [if_pos hto, if_pos hc]
        rw [this]
        exact ⟨_, rfl, Owns.nil _ _ _ _, hx2⟩
      · have hc2 := hc
        try (first | refine gl tb ?_ | refine gg tb ?_ | refine ll tb ?_ | refine lg tb ?_); repeat ((first | refine G.condT rfl ?_ | refine G.condF rfl ?_); try (first | refine gl tb ?_ | refine gg tb ?_ | refine ll tb ?_ | refine lg tb ?_))
        refine GL.cons (Step.lenV tb rfl (Op1.of rfl (by first | exact fun _ => rfl | exact fun h => h | exact fun h => bL h | exact fun h => bL (bL h) | exact fun h => bL (bL (bL h)))) rfl (fun _ => ⟨_, ho.sli⟩) rfl ?_)
        simp only [List.length_map]
        try (first | refine gl tb ?_ | refine gg tb ?_ | refine ll tb ?_ | refine lg tb ?_); repeat ((first | refine G.condT rfl ?_ | refine G.condF rfl ?_); try (first | refine gl tb ?_ | refine gg tb ?_ | refine ll tb ?_ | refine lg tb ?_))
        first | refine G.condD rfl (fun hc => ?_) (fun hc => ?_) | refine G.condN rfl (fun hc => ?_) (fun hc => ?_) | refine G.cond rfl (fun hc => ?_) (fun hc => ?_)
        · try (first | refine gl tb ?_ | refine gg tb ?_ | refine ll tb ?_ | refine lg tb ?_); repeat ((first | refine G.condT rfl ?_ | refine G.condF rfl ?_); try (first | refine gl tb ?_ | refine gg tb ?_ | refine ll tb ?_ | refine lg tb ?_))
          refine G.ret2 rfl rfl rfl rfl rfl ?_
          have : newR ls = (15, []) := by unfold newR; rw [if_pos hto, if_neg (by rw [hc2]; simp), if_pos (by omega)]
          rw [this]
          exact ⟨_, rfl, Owns.nil _ _ _ _, hx2⟩
        · try (first | refine gl tb ?_ | refine gg tb ?_ | refine ll tb ?_ | refine lg tb ?_); repeat ((first | refine G.condT rfl ?_ | refine G.condF rfl ?_); try (first | refine gl tb ?_ | refine gg tb ?_ | refine ll tb ?_ | refine lg tb ?_))
          refine G.ret2 rfl rfl rfl rfl rfl ?_
          have : newR ls = (0, (foldN ls).1) := by unfold newR; rw [if_pos hto, if_neg (by rw [hc2]; simp), if_neg (by omega)]
          rw [this]
          exact ⟨_, rfl, ho, hx2⟩
end Go.Proofs.YtfffblopkaandaaDoor
open Go Go.Vg Go.RowKit Go.Proofs Go.Proofs.YtfffblopkaandaaDoor
namespace Go.Proofs.YtfffblopkaandaaDoor
set_option linter.unusedSimpArgs false

def setStep (out : List Lab) (x : Lab) : List Lab := if (newR (out ++ [x])).1 = 0 then (newR (out ++ [x])).2 else out
def setN (ls : List Lab) : List Lab := (ls.take 80).foldl setStep []
theorem newR_len {ls : List Lab} : (newR ls).2.length ≤ 64 := by
  unfold newR
  split
  · split
    · simp
    · split
      · simp
      · simp only; omega
  · simp
theorem setTo_snoc (ls : List Lab) (x : Lab) : (ls ++ [x]).foldl setStep [] = setStep (ls.foldl setStep []) x := by simp
theorem setTo_len (ls : List Lab) : (ls.foldl setStep []).length ≤ 64 := by
  suffices ∀ (l : List Lab) (s : List Lab), s.length ≤ 64 → (l.foldl setStep s).length ≤ 64 from this ls [] (by simp)
  intro l
  induction l with
  | nil => intro s h; exact h
  | cons a r ih =>
    intro s h
    refine ih _ ?_
    unfold setStep
    split
    · exact newR_len
    · exact h
theorem putL_mem {l : List Lab} {x y : Lab} (h : y ∈ putL l x) : y ∈ l ∨ y = x := by
  simp only [putL, List.mem_append, List.mem_cons] at h
  rcases h with h | h | h
  · exact .inl ((List.takeWhile_sublist _).mem h)
  · exact .inr h
  · exact .inl ((List.dropWhile_sublist _).mem h)
theorem foldN_mem {ls : List Lab} {y : Lab} (h : y ∈ (foldN ls).1) : y ∈ ls := by
  suffices ∀ (l : List Lab) (s : List Lab × Bool), y ∈ (l.foldl stepN s).1 → y ∈ s.1 ∨ y ∈ l by
    rcases this ls ([], false) h with h | h
    · simp at h
    · exact h
  intro l
  induction l with
  | nil => intro s h; exact .inl h
  | cons a r ih =>
    intro s h
    rcases ih _ h with h | h
    · unfold stepN at h
      split at h
      · exact .inl h
      · rcases putL_mem h with h | h
        · exact .inl h
        · exact .inr (by simp [h])
    · exact .inr (by simp [h])
theorem newR_mem {ls : List Lab} {y : Lab} (h : y ∈ (newR ls).2) : y ∈ ls := by
  unfold newR at h
  split at h
  · split at h
    · simp at h
    · split at h
      · simp at h
      · exact foldN_mem h
  · simp at h
theorem setTo_mem {ls : List Lab} {y : Lab} (h : y ∈ ls.foldl setStep []) : y ∈ ls := by
  suffices ∀ (l : List Lab) (s : List Lab), y ∈ l.foldl setStep s → y ∈ s ∨ y ∈ l by
    rcases this ls [] h with h | h
    · simp at h
    · exact h
  intro l
  induction l with
  | nil => intro s h; exact .inl h
  | cons a r ih =>
    intro s h
    rcases ih _ h with h | h
    · unfold setStep at h
      split at h
      · rcases List.mem_append.1 (newR_mem h) with h | h
        · exact .inl h
        · exact .inr (by simp at h; simp [h])
      · exact .inl h
    · exact .inr (by simp [h])

theorem set_ok (v : Value) (ls : List Lab) (w : World) (hv : Labs w v ls) (hz : ∀ x ∈ ls, LabSz x) :
    Ret Tryd.prog 12 ⟨[v]⟩ w fun r w' => LO w' w.heap.size r (setN ls) ∧ Ext w w' := by
  have hbd := Labs.bound hv
  refine ret_of_G Tryd.func12 rfl Tryd.ntmps12 rfl ?_
  simp only [argEnv]
  try (first | refine gl tb ?_ | refine gg tb ?_ | refine ll tb ?_ | refine lg tb ?_); repeat ((first | refine G.condT rfl ?_ | refine G.condF rfl ?_); try (first | refine gl tb ?_ | refine gg tb ?_ | refine ll tb ?_ | refine lg tb ?_))
  refine GL.cons (Step.callF rfl rfl rfl c16 rfl (cut_ok v ls w hv) ?_)
  rintro v' w0 ⟨hv', hw0⟩
  obtain rfl : w = w0 := hw0.symm
  obtain ⟨ls', hls'⟩ : ∃ l, l = ls.take 80 := ⟨_, rfl⟩
  have hset : setN ls = ls'.foldl setStep [] := by rw [hls']; rfl
  have hn : ls'.length ≤ 80 := by rw [hls', List.length_take]; omega
  have hz' : ∀ x ∈ ls', LabSz x := fun x hx => hz x (List.mem_of_mem_take (hls' ▸ hx))
  rw [← hls'] at hv'
  rw [hset]
  clear hz hv hbd hls' hset
  try (first | refine gl tb ?_ | refine gg tb ?_ | refine ll tb ?_ | refine lg tb ?_); repeat ((first | refine G.condT rfl ?_ | refine G.condF rfl ?_); try (first | refine gl tb ?_ | refine gg tb ?_ | refine ll tb ?_ | refine lg tb ?_))
  refine (G.loop (fun x : Nat × Value => [(0, none, v'), (3, none, x.2), (4, none, .int .i64 x.1)]) (fun x w' => Ext w w' ∧ x.1 ≤ ls'.length ∧ LO w' w.heap.size x.2 ((ls'.take x.1).foldl setStep [])) (fun x => ls'.length - x.1) (0, .slice none 0 0) (by repeat (first | exact Sub.nil _ | refine Sub.cons rfl ?_)) ⟨Ext.refl _, by simp, Owns.nil _ _ _ _⟩ ?_)
  rintro ⟨k, s⟩ w2 ⟨hx2, hk, ho⟩
  simp only at hk ho ⊢
  have hv2 := hv'.to hx2
  try (first | refine gl tb ?_ | refine gg tb ?_ | refine ll tb ?_ | refine lg tb ?_); repeat ((first | refine G.condT rfl ?_ | refine G.condF rfl ?_); try (first | refine gl tb ?_ | refine gg tb ?_ | refine ll tb ?_ | refine lg tb ?_))
  refine GL.cons (Step.lenV tb rfl (Op1.of rfl (by first | exact fun _ => rfl | exact fun h => h | exact fun h => bL h | exact fun h => bL (bL h) | exact fun h => bL (bL (bL h)))) rfl (fun _ => ⟨_, hv2⟩) rfl ?_)
  simp only [List.length_map]
  try (first | refine gl tb ?_ | refine gg tb ?_ | refine ll tb ?_ | refine lg tb ?_); repeat ((first | refine G.condT rfl ?_ | refine G.condF rfl ?_); try (first | refine gl tb ?_ | refine gg tb ?_ | refine ll tb ?_ | refine lg tb ?_))
  first | refine G.condD rfl (fun hc => ?_) (fun hc => ?_) | refine G.condN rfl (fun hc => ?_) (fun hc => ?_) | refine G.cond rfl (fun hc => ?_) (fun hc => ?_)
  · have hlt : k < ls'.length := by omega
    obtain ⟨x, hmem, hget, htk, -, -⟩ := Labs.at hlt
    have hsn : (ls'.take (k + 1)).foldl setStep [] = setStep ((ls'.take k).foldl setStep []) x := by rw [htk, setTo_snoc]
    have hlen := setTo_len (ls'.take k)
    have hm : ∀ y ∈ (ls'.take k).foldl setStep [], LabSz y := fun y hy => hz' y (List.mem_of_mem_take (setTo_mem hy))
    generalize (ls'.take k).foldl setStep [] = out at ho hsn hlen hm
    try (first | refine gl tb ?_ | refine gg tb ?_ | refine ll tb ?_ | refine lg tb ?_); repeat ((first | refine G.condT rfl ?_ | refine G.condF rfl ?_); try (first | refine gl tb ?_ | refine gg tb ?_ | refine ll tb ?_ | refine lg tb ?_))
    refine G.regionG (Ext w2.drew) mixed (Ext.refl _) ?_
    have hx3 := hx2.drew'
    have ho := ho.to (Ext.drew w2)
    have hv3 := hv2.to (Ext.drew w2)
    generalize w2.drew = w3 at *
    refine GD.join [7, 2, 0, 6, 5, 4, 3, 1] (fun x : Value × Value => [(18, none, x.1), (23, none, x.2), (0, none, v'), (3, none, s), (4, none, .int .i64 k)]) (fun y w' => Ext w3 w' ∧ LO w' w3.heap.size y.1 out ∧ Labs w' y.2 [x]) ?_ fun meet => ?_
    · rintro ⟨s18, s23⟩ w4 ⟨hx4, ho18, ho23⟩
      simp only at ho18 ho23 ⊢
      have hxw := hx3.trans hx4
      refine GD.steps ([(8, false), (9, false), (10, true), (11, true), (12, true), (13, true), (14, true)]) (by kernel_rfl) (by kernel_rfl) rfl ?_
      refine GM.eff (Step.append tb rfl (Op1.of rfl (by first | exact fun _ => rfl | exact fun h => h | exact fun h => bL h | exact fun h => bL (bL h) | exact fun h => bL (bL (bL h)))) (Op1.of rfl (by first | exact fun _ => rfl | exact fun h => h | exact fun h => bL h | exact fun h => bL (bL h) | exact fun h => bL (bL (bL h)))) rfl rfl rfl (by rfl) (ho18) (ho23) (lab1 [x]) (by simp only [List.length_map, List.length_append, List.length_cons, List.length_nil, List.length_take, List.length_drop]; omega) (by simp only [List.length_map, List.length_append, List.length_cons, List.length_nil, List.length_take, List.length_drop]; omega) (hx4.size) rfl ?_)
      intro s24 w5 ho24 hg5
      have hx5 : Ext w3 w5 := hg5.below _ hx4
      have hx05 := hx3.trans hx5
      refine ⟨hx5, ?_⟩
      have ho24' : LO w5 w3.heap.size s24 (out ++ [x]) := by unfold LO; rw [List.map_append]; exact ho24
      have hm' : ∀ y ∈ out ++ [x], LabSz y := by
        intro y hy
        rcases List.mem_append.1 hy with h | h
        · exact hm y h
        · simp only [List.mem_cons, List.not_mem_nil, or_false] at h; subst h; exact hz' _ hmem
      refine GM.eff (Step.callF rfl rfl rfl c19 rfl (refNew_ok s24 (out ++ [x]) w5 ho24'.sli (by simp only [List.length_append, List.length_cons, List.length_nil]; omega) hm') ?_)
      rintro r w6 ⟨sN, rfl, hoN, hx6⟩
      refine ⟨hx5.trans hx6, ?_⟩
      repeat (first
    | refine GM.nil ?_
    | refine GM.read (fun w' hS => Step.move rfl (Op1.of rfl (by first | exact fun _ => rfl | exact fun h => h | exact fun h => bL h | exact fun h => bL (bL h) | exact fun h => bL (bL (bL h)))) rfl ⟨rfl, rfl⟩) rfl rfl ?_
    | refine GM.read (fun w' hS => Step.assign rfl (Op1.of rfl (by first | exact fun _ => rfl | exact fun h => h | exact fun h => bL h | exact fun h => bL (bL h) | exact fun h => bL (bL (bL h)))) rfl ⟨rfl, rfl⟩) rfl rfl ?_
    | refine GM.read (fun w' hS => Step.bin rfl (Op1.of rfl (by first | exact fun _ => rfl | exact fun h => h | exact fun h => bL h | exact fun h => bL (bL h) | exact fun h => bL (bL (bL h)))) (Op1.of rfl (by first | exact fun _ => rfl | exact fun h => h | exact fun h => bL h | exact fun h => bL (bL h) | exact fun h => bL (bL (bL h)))) rfl rfl ⟨rfl, rfl⟩) rfl rfl ?_
    | refine GM.read (fun w' hS => Step.and rfl (Op1.of rfl (by first | exact fun _ => rfl | exact fun h => h | exact fun h => bL h | exact fun h => bL (bL h) | exact fun h => bL (bL (bL h)))) rfl (by first | exact fun _ _ => rfl | exact fun _ h => h | exact fun _ h => bNot h | exact fun h k => bAnd h k | exact fun h k => bAnd h (bNot k)) rfl ⟨rfl, rfl⟩) rfl rfl ?_
    | refine GM.read (fun w' hS => Step.or rfl (Op1.of rfl (by first | exact fun _ => rfl | exact fun h => h | exact fun h => bL h | exact fun h => bL (bL h) | exact fun h => bL (bL (bL h)))) rfl (by first | exact fun _ _ => rfl | exact fun _ h => h | exact fun _ h => bNot h | exact fun h k => bAnd h k | exact fun h k => bAnd h (bNot k)) rfl ⟨rfl, rfl⟩) rfl rfl ?_
    | refine GM.read (fun w' hS => Step.lenS tb rfl (Op1.of rfl (by first | exact fun _ => rfl | exact fun h => h | exact fun h => bL h | exact fun h => bL (bL h) | exact fun h => bL (bL (bL h)))) rfl rfl ⟨rfl, rfl⟩) rfl rfl ?_
    | refine GM.read (fun w' hS => Step.un rfl (Op1.of rfl (by first | exact fun _ => rfl | exact fun h => h | exact fun h => bL h | exact fun h => bL (bL h) | exact fun h => bL (bL (bL h)))) rfl rfl ⟨rfl, rfl⟩) rfl rfl ?_
    | refine GM.read (fun w' hS => Step.extract rfl (Op1.of rfl (by first | exact fun _ => rfl | exact fun h => h | exact fun h => bL h | exact fun h => bL (bL h) | exact fun h => bL (bL (bL h)))) rfl rfl ⟨rfl, rfl⟩) rfl rfl ?_)
      refine GD.done (by kernel_rfl) ?_
      try (first | refine gl tb ?_ | refine gg tb ?_ | refine ll tb ?_ | refine lg tb ?_); repeat ((first | refine G.condT rfl ?_ | refine G.condF rfl ?_); try (first | refine gl tb ?_ | refine gg tb ?_ | refine ll tb ?_ | refine lg tb ?_))
      have hst : setStep out x = if (newR (out ++ [x])).1 = 0 then (newR (out ++ [x])).2 else out := rfl
      first | refine G.condD rfl (fun hc => ?_) (fun hc => ?_) | refine G.condN rfl (fun hc => ?_) (fun hc => ?_) | refine G.cond rfl (fun hc => ?_) (fun hc => ?_)
      · rw [if_pos hc] at hst
        try (first | refine gl tb ?_ | refine gg tb ?_ | refine ll tb ?_ | refine lg tb ?_); repeat ((first | refine G.condT rfl ?_ | refine G.condF rfl ?_); try (first | refine gl tb ?_ | refine gg tb ?_ | refine ll tb ?_ | refine lg tb ?_))
        refine GL.cons (Step.arith rfl (Op1.of rfl (by first | exact fun _ => rfl | exact fun h => h | exact fun h => bL h | exact fun h => bL (bL h) | exact fun h => bL (bL (bL h)))) (Op1.of rfl (by first | exact fun _ => rfl | exact fun h => h | exact fun h => bL h | exact fun h => bL (bL h) | exact fun h => bL (bL (bL h)))) (wrap_i64 (by omega) (by omega)) rfl ?_)
        try (first | refine gl tb ?_ | refine gg tb ?_ | refine ll tb ?_ | refine lg tb ?_); repeat ((first | refine G.condT rfl ?_ | refine G.condF rfl ?_); try (first | refine gl tb ?_ | refine gg tb ?_ | refine ll tb ?_ | refine lg tb ?_))
        exact G.lp (x := (k, s)) (k + 1, sN) (by repeat (first | exact Sub.nil _ | refine Sub.cons rfl ?_)) ⟨hx05.trans hx6, by simp only; omega, by simp only [hsn, hst]; exact hoN.mono hx05.size⟩ (by simp only; omega)
      · rw [if_neg hc] at hst
        try (first | refine gl tb ?_ | refine gg tb ?_ | refine ll tb ?_ | refine lg tb ?_); repeat ((first | refine G.condT rfl ?_ | refine G.condF rfl ?_); try (first | refine gl tb ?_ | refine gg tb ?_ | refine ll tb ?_ | refine lg tb ?_))
        refine GL.cons (Step.arith rfl (Op1.of rfl (by first | exact fun _ => rfl | exact fun h => h | exact fun h => bL h | exact fun h => bL (bL h) | exact fun h => bL (bL (bL h)))) (Op1.of rfl (by first | exact fun _ => rfl | exact fun h => h | exact fun h => bL h | exact fun h => bL (bL h) | exact fun h => bL (bL (bL h)))) (wrap_i64 (by omega) (by omega)) rfl ?_)
        try (first | refine gl tb ?_ | refine gg tb ?_ | refine ll tb ?_ | refine lg tb ?_); repeat ((first | refine G.condT rfl ?_ | refine G.condF rfl ?_); try (first | refine gl tb ?_ | refine gg tb ?_ | refine ll tb ?_ | refine lg tb ?_))
        exact G.lp (x := (k, s)) (k + 1, s) (by repeat (first | exact Sub.nil _ | refine Sub.cons rfl ?_)) ⟨hx05.trans hx6, by simp only; omega, by simp only [hsn, hst]; exact ho.to (hx5.trans hx6)⟩ (by simp only; omega)
    · refine GD.steps ([(1, true), (3, true), (4, true), (5, true), (6, true)]) (by kernel_rfl) (by kernel_rfl) rfl ?_
      repeat (first
    | refine GM.nil ?_
    | refine GM.read (fun w' hS => Step.move rfl (Op1.of rfl (by first | exact fun _ => rfl | exact fun h => h | exact fun h => bL h | exact fun h => bL (bL h) | exact fun h => bL (bL (bL h)))) rfl ⟨rfl, rfl⟩) rfl rfl ?_
    | refine GM.read (fun w' hS => Step.assign rfl (Op1.of rfl (by first | exact fun _ => rfl | exact fun h => h | exact fun h => bL h | exact fun h => bL (bL h) | exact fun h => bL (bL (bL h)))) rfl ⟨rfl, rfl⟩) rfl rfl ?_
    | refine GM.read (fun w' hS => Step.bin rfl (Op1.of rfl (by first | exact fun _ => rfl | exact fun h => h | exact fun h => bL h | exact fun h => bL (bL h) | exact fun h => bL (bL (bL h)))) (Op1.of rfl (by first | exact fun _ => rfl | exact fun h => h | exact fun h => bL h | exact fun h => bL (bL h) | exact fun h => bL (bL (bL h)))) rfl rfl ⟨rfl, rfl⟩) rfl rfl ?_
    | refine GM.read (fun w' hS => Step.and rfl (Op1.of rfl (by first | exact fun _ => rfl | exact fun h => h | exact fun h => bL h | exact fun h => bL (bL h) | exact fun h => bL (bL (bL h)))) rfl (by first | exact fun _ _ => rfl | exact fun _ h => h | exact fun _ h => bNot h | exact fun h k => bAnd h k | exact fun h k => bAnd h (bNot k)) rfl ⟨rfl, rfl⟩) rfl rfl ?_
    | refine GM.read (fun w' hS => Step.or rfl (Op1.of rfl (by first | exact fun _ => rfl | exact fun h => h | exact fun h => bL h | exact fun h => bL (bL h) | exact fun h => bL (bL (bL h)))) rfl (by first | exact fun _ _ => rfl | exact fun _ h => h | exact fun _ h => bNot h | exact fun h k => bAnd h k | exact fun h k => bAnd h (bNot k)) rfl ⟨rfl, rfl⟩) rfl rfl ?_
    | refine GM.read (fun w' hS => Step.lenS tb rfl (Op1.of rfl (by first | exact fun _ => rfl | exact fun h => h | exact fun h => bL h | exact fun h => bL (bL h) | exact fun h => bL (bL (bL h)))) rfl rfl ⟨rfl, rfl⟩) rfl rfl ?_
    | refine GM.read (fun w' hS => Step.un rfl (Op1.of rfl (by first | exact fun _ => rfl | exact fun h => h | exact fun h => bL h | exact fun h => bL (bL h) | exact fun h => bL (bL (bL h)))) rfl rfl ⟨rfl, rfl⟩) rfl rfl ?_
    | refine GM.read (fun w' hS => Step.extract rfl (Op1.of rfl (by first | exact fun _ => rfl | exact fun h => h | exact fun h => bL h | exact fun h => bL (bL h) | exact fun h => bL (bL (bL h)))) rfl rfl ⟨rfl, rfl⟩) rfl rfl ?_)
      refine GM.read (fun w' hS => Step.indexAddr tb k rfl (Op1.of rfl (by first | exact fun _ => rfl | exact fun h => h | exact fun h => bL h | exact fun h => bL (bL h) | exact fun h => bL (bL (bL h)))) (Op1.of rfl (by first | exact fun _ => rfl | exact fun h => h | exact fun h => bL h | exact fun h => bL (bL h) | exact fun h => bL (bL (bL h)))) rfl rfl (fun hc => ⟨_, hv3.to hS⟩) (fun hc => ⟨rfl, by rw [List.length_map]; exact hlt⟩) rfl ⟨rfl, rfl⟩) rfl rfl ?_
      refine GM.read (fun w' hS => Step.loadA tb rfl (Op1.of rfl (by first | exact fun _ => rfl | exact fun h => h | exact fun h => bL h | exact fun h => bL (bL h) | exact fun h => bL (bL (bL h)))) rfl rfl rfl (fun hc => (hv3.to hS).elem hget) (fun _ => rfl) rfl ⟨rfl, rfl⟩) rfl rfl ?_
      refine GM.nil ?_
      refine GD.two (0) (7) (by kernel_rfl) (by kernel_rfl) rfl rfl ?_ ?_
      · refine (Step.buildSlice tb ([]) rfl rfl rfl rfl rfl rfl (by rfl) rfl (by rfl) (by rfl) (by rfl) (by simp) rfl ?_)
        intro s16 w4 ho16 hs4 hx4
        refine ⟨hx4, ?_⟩
        have ho4 := ho.to hx4
        have hxw := hx3.trans hx4
        refine GD.two (2) (7) (by kernel_rfl) (by kernel_rfl) rfl rfl ?_ ?_
        · refine (Step.append tb rfl (Op1.of rfl (by first | exact fun _ => rfl | exact fun h => h | exact fun h => bL h | exact fun h => bL (bL h) | exact fun h => bL (bL (bL h)))) (Op1.of rfl (by first | exact fun _ => rfl | exact fun h => h | exact fun h => bL h | exact fun h => bL (bL h) | exact fun h => bL (bL (bL h)))) rfl rfl rfl (by rfl) (ho16) (ho4.sli) (lab1 _) (by simp only [List.length_map, List.length_append, List.length_cons, List.length_nil, List.length_take, List.length_drop]; omega) (by simp only [List.length_map, List.length_append, List.length_cons, List.length_nil, List.length_take, List.length_drop]; omega) (hx4.size) rfl ?_)
          intro s18 w5 ho18 hg5
          have hx5 : Ext w3 w5 := hg5.below _ hx4
          refine ⟨hx5, ?_⟩
          refine GD.steps ([(7, false)]) (by kernel_rfl) (by kernel_rfl) rfl ?_
          refine GM.eff (Step.buildSlice tb ([labC x]) rfl rfl rfl rfl rfl rfl (by rfl) rfl (by rfl) (by rfl) (by rfl) (labLen [x]) rfl ?_)
          intro s23 w6 ho23 hs6 hx6
          refine ⟨hx5.trans hx6, ?_⟩
          refine GM.nil ?_
          exact meet (s18, s23) _ _ _ rfl rfl (by repeat (first | exact Sub.nil _ | refine Sub.cons rfl ?_)) ⟨hx5.trans hx6, by simpa using ho18.to hx6, ho23.sli⟩
        · refine (Step.buildSlice tb ([labC x]) rfl rfl rfl rfl rfl rfl (by rfl) rfl (by rfl) (by rfl) (by rfl) (labLen [x]) rfl ?_)
          intro s23 w5 ho23 hs5 hx5
          refine ⟨hx4.trans hx5, ?_⟩
          refine GD.steps ([(2, false)]) (by kernel_rfl) (by kernel_rfl) rfl ?_
          refine GM.eff (Step.append tb rfl (Op1.of rfl (by first | exact fun _ => rfl | exact fun h => h | exact fun h => bL h | exact fun h => bL (bL h) | exact fun h => bL (bL (bL h)))) (Op1.of rfl (by first | exact fun _ => rfl | exact fun h => h | exact fun h => bL h | exact fun h => bL (bL h) | exact fun h => bL (bL (bL h)))) rfl rfl rfl (by rfl) (ho16.to hx5) (ho4.sli.to hx5) (lab1 _) (by simp only [List.length_map, List.length_append, List.length_cons, List.length_nil, List.length_take, List.length_drop]; omega) (by simp only [List.length_map, List.length_append, List.length_cons, List.length_nil, List.length_take, List.length_drop]; omega) ((hx4.trans hx5).size) rfl ?_)
          intro s18 w6 ho18 hg6
          have hx6 := hg6.below _ (hx4.trans hx5)
          refine ⟨hx6, ?_⟩
          refine GM.nil ?_
          exact meet (s18, s23) _ _ _ rfl rfl (by repeat (first | exact Sub.nil _ | refine Sub.cons rfl ?_)) ⟨hx6, by simpa using ho18, (ho23.grew hg6 (ho16.apart ho23)).sli⟩
      · refine (Step.buildSlice tb ([labC x]) rfl rfl rfl rfl rfl rfl (by rfl) rfl (by rfl) (by rfl) (by rfl) (labLen [x]) rfl ?_)
        intro s23 w4 ho23 hs4 hx4
        refine ⟨hx4, ?_⟩
        refine GD.steps ([(0, false), (2, false)]) (by kernel_rfl) (by kernel_rfl) rfl ?_
        refine GM.eff (Step.buildSlice tb ([]) rfl rfl rfl rfl rfl rfl (by rfl) rfl (by rfl) (by rfl) (by rfl) (by simp) rfl ?_)
        intro s16 w5 ho16 hs5 hx5
        have hx45 := hx4.trans hx5
        refine ⟨hx45, ?_⟩
        refine GM.eff (Step.append tb rfl (Op1.of rfl (by first | exact fun _ => rfl | exact fun h => h | exact fun h => bL h | exact fun h => bL (bL h) | exact fun h => bL (bL (bL h)))) (Op1.of rfl (by first | exact fun _ => rfl | exact fun h => h | exact fun h => bL h | exact fun h => bL (bL h) | exact fun h => bL (bL (bL h)))) rfl rfl rfl (by rfl) (ho16) ((ho.to hx45).sli) (lab1 _) (by simp only [List.length_map, List.length_append, List.length_cons, List.length_nil, List.length_take, List.length_drop]; omega) (by simp only [List.length_map, List.length_append, List.length_cons, List.length_nil, List.length_take, List.length_drop]; omega) (hx5.size) rfl ?_)
        intro s18 w6 ho18 hg6
        have hx6 := hg6.below _ hx5
        refine ⟨hx4.trans hx6, ?_⟩
        refine GM.nil ?_
        exact meet (s18, s23) _ _ _ rfl rfl (by repeat (first | exact Sub.nil _ | refine Sub.cons rfl ?_)) ⟨hx4.trans hx6, by simpa using ho18.mono hx4.size, (ho23.to hx6).sli⟩
  · have hke : k = ls'.length := by omega
    subst hke
    rw [List.take_length] at ho
    try (first | refine gl tb ?_ | refine gg tb ?_ | refine ll tb ?_ | refine lg tb ?_); repeat ((first | refine G.condT rfl ?_ | refine G.condF rfl ?_); try (first | refine gl tb ?_ | refine gg tb ?_ | refine ll tb ?_ | refine lg tb ?_))
    refine G.ret1 rfl rfl rfl rfl ?_
    exact ⟨ho, hx2⟩
end Go.Proofs.YtfffblopkaandaaDoor
open Go Go.Vg Go.RowKit Go.Proofs Go.Proofs.YtfffblopkaandaaDoor
namespace Go.Proofs.YtfffblopkaandaaDoor
set_option linter.unusedSimpArgs false
theorem all_ok (v : Value) (ls : List Lab) (w : World) (hv : Labs w v ls) :
    Ret Tryd.prog 13 ⟨[v]⟩ w fun r w' => ∃ b, r = .func (.func 53) #[] ⟨[ptr b]⟩ ∧ w.heap.size ≤ b ∧ Bx w' b [v] ∧ Ext w w' := by
  refine ret_of_G Tryd.func13 rfl Tryd.ntmps13 rfl ?_
  unfold argEnv argEnv
  try (first | refine gl tb ?_ | refine gg tb ?_ | refine ll tb ?_ | refine lg tb ?_); repeat ((first | refine G.condT rfl ?_ | refine G.condF rfl ?_); try (first | refine gl tb ?_ | refine gg tb ?_ | refine ll tb ?_ | refine lg tb ?_))
  refine GL.cons (Step.box rfl (Op1.of rfl (by first | exact fun _ => rfl | exact fun h => h | exact fun h => bL h | exact fun h => bL (bL h) | exact fun h => bL (bL (bL h)))) (hv.cells) rfl ?_)
  intro w1 hb hsz hx
  try (first | refine gl tb ?_ | refine gg tb ?_ | refine ll tb ?_ | refine lg tb ?_); repeat ((first | refine G.condT rfl ?_ | refine G.condF rfl ?_); try (first | refine gl tb ?_ | refine gg tb ?_ | refine ll tb ?_ | refine lg tb ?_))
  refine G.ret1 rfl rfl rfl rfl ?_
  exact ⟨_, rfl, Nat.le_refl _, hb, hx⟩

theorem all1_ok (v : Value) (ls : List Lab) (b : Nat) : IterOk Tryd.prog 53 [ptr b] (ls.map labC) (fun W => CellAt W (ptr b) v ∧ Labs W v ls) := by
  intro l I St w hD hI hSt h0 hY
  refine ret_of_G Tryd.func53 rfl Tryd.ntmps53 rfl ?_
  unfold argEnv argEnv argEnv
  have h0' := hD 0 w h0
  try (first | refine gl tb ?_ | refine gg tb ?_ | refine ll tb ?_ | refine lg tb ?_); repeat ((first | refine G.condT rfl ?_ | refine G.condF rfl ?_); try (first | refine gl tb ?_ | refine gg tb ?_ | refine ll tb ?_ | refine lg tb ?_))
  refine GL.cons (Step.load1 tb rfl (Op1.of rfl (by first | exact fun _ => rfl | exact fun h => h | exact fun h => bL h | exact fun h => bL (bL h) | exact fun h => bL (bL (bL h)))) rfl rfl (fun _ => h0'.1) rfl ?_)
  refine GL.cons (Step.lenV tb rfl (Op1.of rfl (by first | exact fun _ => rfl | exact fun h => h | exact fun h => bL h | exact fun h => bL (bL h) | exact fun h => bL (bL (bL h)))) rfl (fun _ => ⟨_, h0'.2⟩) rfl ?_)
  try (first | refine gl tb ?_ | refine gg tb ?_ | refine ll tb ?_ | refine lg tb ?_); repeat ((first | refine G.condT rfl ?_ | refine G.condF rfl ?_); try (first | refine gl tb ?_ | refine gg tb ?_ | refine ll tb ?_ | refine lg tb ?_))
  refine (G.loop (fun k : Nat => [(0, none, yieldV l), (5, none, v), (6, none, .int .i64 (ls.map labC).length), (7, none, .int .i64 k)]) (fun k w' => k ≤ ls.length ∧ I k w') (fun k => ls.length - k) 0 (by repeat (first | exact Sub.nil _ | refine Sub.cons rfl ?_)) ⟨by omega, h0⟩ ?_)
  rintro k w ⟨hk, hIk⟩
  try (first | refine gl tb ?_ | refine gg tb ?_ | refine ll tb ?_ | refine lg tb ?_); repeat ((first | refine G.condT rfl ?_ | refine G.condF rfl ?_); try (first | refine gl tb ?_ | refine gg tb ?_ | refine ll tb ?_ | refine lg tb ?_))
  simp only [List.length_map]
  first | refine G.condD rfl (fun hc => ?_) (fun hc => ?_) | refine G.condN rfl (fun hc => ?_) (fun hc => ?_) | refine G.cond rfl (fun hc => ?_) (fun hc => ?_)
  · have hlt : k < ls.length := by omega
    have hget : (ls.map labC)[k]? = some (labC ls[k]) := by simp [hlt]
    have hL := (hD k w hIk).2
    have hbd := hL.bound
    try (first | refine gl tb ?_ | refine gg tb ?_ | refine ll tb ?_ | refine lg tb ?_); repeat ((first | refine G.condT rfl ?_ | refine G.condF rfl ?_); try (first | refine gl tb ?_ | refine gg tb ?_ | refine ll tb ?_ | refine lg tb ?_))
    refine GL.cons (Step.indexAddr tb k rfl (Op1.of rfl (by first | exact fun _ => rfl | exact fun h => h | exact fun h => bL h | exact fun h => bL (bL h) | exact fun h => bL (bL (bL h)))) (Op1.of rfl (by first | exact fun _ => rfl | exact fun h => h | exact fun h => bL h | exact fun h => bL (bL h) | exact fun h => bL (bL (bL h)))) rfl rfl (fun _ => ⟨_, hL⟩) (fun _ => ⟨by omega, by simpa using hlt⟩) rfl ?_)
    refine GL.cons (Step.loadA (us := labC ls[k]) tb rfl (Op1.of rfl (by first | exact fun _ => rfl | exact fun h => h | exact fun h => bL h | exact fun h => bL (bL h) | exact fun h => bL (bL (bL h)))) rfl rfl rfl (fun _ => hL.elem hget) (fun _ => rfl) rfl ?_)
    try (first | refine gl tb ?_ | refine gg tb ?_ | refine ll tb ?_ | refine lg tb ?_); repeat ((first | refine G.condT rfl ?_ | refine G.condF rfl ?_); try (first | refine gl tb ?_ | refine gg tb ?_ | refine ll tb ?_ | refine lg tb ?_))
    refine GL.cons (Step.alloc tb rfl rfl rfl rfl ?_)
    intro w1 hb1 hs1 hx1
    refine GL.cons (Step.store0 (vs := labC ls[k]) tb rfl (Op1.of rfl (by first | exact fun _ => rfl | exact fun h => h | exact fun h => bL h | exact fun h => bL (bL h) | exact fun h => bL (bL (bL h)))) (Op1.of rfl (by first | exact fun _ => rfl | exact fun h => h | exact fun h => bL h | exact fun h => bL (bL h) | exact fun h => bL (bL (bL h)))) rfl rfl rfl (by simp [Value.oneCell', S, labC]) hb1 rfl ?_)
    intro w2 hb2 hw2
    try (first | refine gl tb ?_ | refine gg tb ?_ | refine ll tb ?_ | refine lg tb ?_); repeat ((first | refine G.condT rfl ?_ | refine G.condF rfl ?_); try (first | refine gl tb ?_ | refine gg tb ?_ | refine ll tb ?_ | refine lg tb ?_))
    refine GL.cons (Step.fieldAddr tb rfl (Op1.of rfl (by first | exact fun _ => rfl | exact fun h => h | exact fun h => bL h | exact fun h => bL (bL h) | exact fun h => bL (bL (bL h)))) rfl rfl rfl rfl (fun _ => ptr_ptr _) rfl ?_)
    refine GL.cons (Step.load1 tb rfl (Op1.of rfl (by first | exact fun _ => rfl | exact fun h => h | exact fun h => bL h | exact fun h => bL (bL h) | exact fun h => bL (bL (bL h)))) rfl rfl (fun _ => hb2.cells.cell (i := 0) rfl) rfl ?_)
    refine GL.cons (Step.fieldAddr tb rfl (Op1.of rfl (by first | exact fun _ => rfl | exact fun h => h | exact fun h => bL h | exact fun h => bL (bL h) | exact fun h => bL (bL (bL h)))) rfl rfl rfl rfl (fun _ => ptr_ptr _) rfl ?_)
    refine GL.cons (Step.load1 tb rfl (Op1.of rfl (by first | exact fun _ => rfl | exact fun h => h | exact fun h => bL h | exact fun h => bL (bL h) | exact fun h => bL (bL (bL h)))) rfl rfl (fun _ => hb2.cells.cell (i := 1) rfl) rfl ?_)
    have hext : Ext w w2 := Below.wr hx1 hw2 (Nat.le_refl _)
    refine GL.cons (Step.yield rfl (Op1.of rfl (by first | exact fun _ => rfl | exact fun h => h | exact fun h => bL h | exact fun h => bL (bL h) | exact fun h => bL (bL (bL h)))) rfl rfl rfl (hY k _ w2 hget (hI _ _ _ hIk hext)) ?_)
    intro bb w3 hR
    cases bb with
    | true =>
      try (first | refine gl tb ?_ | refine gg tb ?_ | refine ll tb ?_ | refine lg tb ?_); repeat ((first | refine G.condT rfl ?_ | refine G.condF rfl ?_); try (first | refine gl tb ?_ | refine gg tb ?_ | refine ll tb ?_ | refine lg tb ?_))
      refine GL.cons (Step.arith rfl (Op1.of rfl (by first | exact fun _ => rfl | exact fun h => h | exact fun h => bL h | exact fun h => bL (bL h) | exact fun h => bL (bL (bL h)))) (Op1.of rfl (by first | exact fun _ => rfl | exact fun h => h | exact fun h => bL h | exact fun h => bL (bL h) | exact fun h => bL (bL (bL h)))) (wrap_i64 (by omega) (by omega)) rfl ?_)
      try (first | refine gl tb ?_ | refine gg tb ?_ | refine ll tb ?_ | refine lg tb ?_); repeat ((first | refine G.condT rfl ?_ | refine G.condF rfl ?_); try (first | refine gl tb ?_ | refine gg tb ?_ | refine ll tb ?_ | refine lg tb ?_))
      exact G.lp (k + 1) (by repeat (first | exact Sub.nil _ | refine Sub.cons rfl ?_)) ⟨by omega, hR⟩ (by omega)
    | false =>
      try (first | refine gl tb ?_ | refine gg tb ?_ | refine ll tb ?_ | refine lg tb ?_); repeat ((first | refine G.condT rfl ?_ | refine G.condF rfl ?_); try (first | refine gl tb ?_ | refine gg tb ?_ | refine ll tb ?_ | refine lg tb ?_))
      exact G.ret0 rfl rfl rfl (.inr hR)
  · try (first | refine gl tb ?_ | refine gg tb ?_ | refine ll tb ?_ | refine lg tb ?_); repeat ((first | refine G.condT rfl ?_ | refine G.condF rfl ?_); try (first | refine gl tb ?_ | refine gg tb ?_ | refine ll tb ?_ | refine lg tb ?_))
    obtain rfl : k = ls.length := by omega
    exact G.end0 rfl rfl rfl (.inl (by simpa using hIk))

theorem get_ok (v : Value) (ls : List Lab) (name : List UInt8) (w : World) (hv : Labs w v ls) :
    Ret Tryd.prog 50 ⟨[v, S name]⟩ w fun r w' => r = S (getL ls name) ∧ Ext w w' := by
  refine ret_of_GM Tryd.func50 rfl Tryd.ntmps50 rfl ?_
  unfold argEnv argEnv argEnv
  try (first | refine gl tb ?_ | refine gg tb ?_ | refine ll tb ?_ | refine lg tb ?_); repeat ((first | refine G.condT rfl ?_ | refine G.condF rfl ?_); try (first | refine gl tb ?_ | refine gg tb ?_ | refine ll tb ?_ | refine lg tb ?_))
  refine GL.cons (Step.box rfl (Op1.of rfl (by first | exact fun _ => rfl | exact fun h => h | exact fun h => bL h | exact fun h => bL (bL h) | exact fun h => bL (bL (bL h)))) (rfl) rfl ?_)
  intro w1 hb1 hs1 hx1
  refine GL.cons (Step.alloc tb rfl rfl rfl rfl ?_)
  intro w2 hb2 hs2 hx2
  try (first | refine gl tb ?_ | refine gg tb ?_ | refine ll tb ?_ | refine lg tb ?_); repeat ((first | refine G.condT rfl ?_ | refine G.condF rfl ?_); try (first | refine gl tb ?_ | refine gg tb ?_ | refine ll tb ?_ | refine lg tb ?_))
  refine GL.cons (Step.callF rfl rfl rfl c13 rfl (all_ok v ls w2 (hv.to (hx1.trans hx2))) ?_)
  rintro r w3 ⟨b, rfl, hb, hbx, hx3⟩
  have hb2' := hb2.to hx3
  have hb1' := (hb1.to hx2).to hx3
  have hv3 := hv.to ((hx1.trans hx2).trans hx3)
  have hx : Ext w w3 := (hx1.trans hx2).trans hx3
  try (first | refine gl tb ?_ | refine gg tb ?_ | refine ll tb ?_ | refine lg tb ?_); repeat ((first | refine G.condT rfl ?_ | refine G.condF rfl ?_); try (first | refine gl tb ?_ | refine gg tb ?_ | refine ll tb ?_ | refine lg tb ?_))
  refine G.rangeFunc rfl rfl c53 (all1_ok v ls b) rfl rfl (by intro x hx; obtain ⟨y, _, rfl⟩ := List.mem_map.1 hx; rfl)
    (fun i W => Ext w3 W ∧ getL (ls.drop i) name = getL ls name) (fun c W => c = .ret ∧ Bx W w1.heap.size [S (getL ls name)] ∧ Below w.heap.size w W) ?_ ?_ ?_ ?_ ?_ ?_ ?_
  · rintro l hl i W W' ⟨h1, h2⟩ hk
    exact ⟨Below.kept h1 hk hl h1.size, h2⟩
  · rintro l hl c W W' ⟨h1, h2, h3⟩ hk
    exact ⟨h1, h2.kept hk, Below.kept h3 hk (by have := hx.size; omega) h3.size⟩
  · rintro i W ⟨h1, _⟩
    exact ⟨(hbx.to h1).cells.one, hv3.to h1⟩
  · exact fun w' h => ⟨h, rfl⟩
  · rintro l r rc i x W hl hlr hxi ⟨h1, h2⟩ hLp
    simp only [List.getElem?_map, Option.map_eq_some_iff] at hxi
    obtain ⟨y, hy, rfl⟩ := hxi
    try (first | refine gl tb ?_ | refine gg tb ?_ | refine ll tb ?_ | refine lg tb ?_); repeat ((first | refine G.condT rfl ?_ | refine G.condF rfl ?_); try (first | refine gl tb ?_ | refine gg tb ?_ | refine ll tb ?_ | refine lg tb ?_))
    refine G.beg rfl rfl rfl hLp hlr ?_
    intro W2 hk hLp2 hsz
    have h1' : Ext w3 W2 := Below.kept h1 hk hl h1.size
    have hbn := hb1'.to h1'
    have hbr := hb2'.to h1'
    try (first | refine gl tb ?_ | refine gg tb ?_ | refine ll tb ?_ | refine lg tb ?_); repeat ((first | refine G.condT rfl ?_ | refine G.condF rfl ?_); try (first | refine gl tb ?_ | refine gg tb ?_ | refine ll tb ?_ | refine lg tb ?_))
    refine GL.cons (Step.load1 tb rfl (Op1.of rfl (by first | exact fun _ => rfl | exact fun h => h | exact fun h => bL h | exact fun h => bL (bL h) | exact fun h => bL (bL (bL h)))) rfl rfl (fun _ => hbn.cells.one) rfl ?_)
    try (first | refine gl tb ?_ | refine gg tb ?_ | refine ll tb ?_ | refine lg tb ?_); repeat ((first | refine G.condT rfl ?_ | refine G.condF rfl ?_); try (first | refine gl tb ?_ | refine gg tb ?_ | refine ll tb ?_ | refine lg tb ?_))
    have hd : ls.drop i = y :: ls.drop (i + 1) := by
      have := List.getElem?_eq_some_iff.1 hy
      obtain ⟨hi, rfl⟩ := this
      exact List.drop_eq_getElem_cons hi
    have hg : getL ls name = if y.1 = name then y.2 else getL (ls.drop (i + 1)) name := by rw [← h2, hd]; rfl
    first | refine G.condD rfl (fun hc => ?_) (fun hc => ?_) | refine G.condN rfl (fun hc => ?_) (fun hc => ?_) | refine G.cond rfl (fun hc => ?_) (fun hc => ?_)
    · try (first | refine gl tb ?_ | refine gg tb ?_ | refine ll tb ?_ | refine lg tb ?_); repeat ((first | refine G.condT rfl ?_ | refine G.condF rfl ?_); try (first | refine gl tb ?_ | refine gg tb ?_ | refine ll tb ?_ | refine lg tb ?_))
      refine GL.cons (Step.store0 tb rfl (Op1.of rfl (by first | exact fun _ => rfl | exact fun h => h | exact fun h => bL h | exact fun h => bL (bL h) | exact fun h => bL (bL (bL h)))) (Op1.of rfl (by first | exact fun _ => rfl | exact fun h => h | exact fun h => bL h | exact fun h => bL (bL h) | exact fun h => bL (bL (bL h)))) rfl (rfl) rfl (by simp [Value.oneCell', S]) hbr rfl ?_)
      intro W3 hb3 hw3
      try (first | refine gl tb ?_ | refine gg tb ?_ | refine ll tb ?_ | refine lg tb ?_); repeat ((first | refine G.condT rfl ?_ | refine G.condF rfl ?_); try (first | refine gl tb ?_ | refine gg tb ?_ | refine ll tb ?_ | refine lg tb ?_))
      refine G.ret fun t _ => ⟨hLp2.wr hbr hw3, rfl, ?_, ?_⟩
      · rw [hg, if_pos hc]; exact hb3
      · exact ((hx.trans h1').wr hw3 (by have := hx1.size; omega))
    · try (first | refine gl tb ?_ | refine gg tb ?_ | refine ll tb ?_ | refine lg tb ?_); repeat ((first | refine G.condT rfl ?_ | refine G.condF rfl ?_); try (first | refine gl tb ?_ | refine gg tb ?_ | refine ll tb ?_ | refine lg tb ?_))
      exact G.nil fun t _ => ⟨hLp2, h1', by rw [hg, if_neg hc]⟩
  · rintro r W hr ⟨h1, h2⟩ hD
    have hbr := hb2'.to h1
    try (first | refine gl tb ?_ | refine gg tb ?_ | refine ll tb ?_ | refine lg tb ?_); repeat ((first | refine G.condT rfl ?_ | refine G.condF rfl ?_); try (first | refine gl tb ?_ | refine gg tb ?_ | refine ll tb ?_ | refine lg tb ?_))
    refine GL.cons (Step.store0 tb rfl (Op1.of rfl (by first | exact fun _ => rfl | exact fun h => h | exact fun h => bL h | exact fun h => bL (bL h) | exact fun h => bL (bL (bL h)))) (Op1.of rfl (by first | exact fun _ => rfl | exact fun h => h | exact fun h => bL h | exact fun h => bL (bL h) | exact fun h => bL (bL (bL h)))) rfl (rfl) rfl (by simp [Value.oneCell']) hbr rfl ?_)
    intro W3 hb3 hw3
    have hD3 := hD.wr hbr hw3
    try (first | refine gl tb ?_ | refine gg tb ?_ | refine ll tb ?_ | refine lg tb ?_); repeat ((first | refine G.condT rfl ?_ | refine G.condF rfl ?_); try (first | refine gl tb ?_ | refine gg tb ?_ | refine ll tb ?_ | refine lg tb ?_))
    refine G.retM rfl rfl hD3 fun t ht => ⟨_, resC1 ht rfl rfl (tb.ok _ _ rfl) rfl (hb3.out hD3).cells.one, ?_, ?_⟩
    · rw [← h2, List.length_map, List.drop_length]; rfl
    · exact ((hx.trans h1).wr hw3 (by have := hx1.size; omega)).wr (outW_wr r _) (by have := hx.size; omega)
  · rintro r c W hr ⟨rfl, hb, hB⟩ hD
    refine G.retM rfl rfl hD fun t ht => ⟨_, resC1 ht rfl rfl (tb.ok _ _ rfl) rfl (hb.out hD).cells.one, rfl, ?_⟩
    exact hB.wr (outW_wr r _) (by have := hx.size; omega)

theorem is_ok (v : Value) (ls : List Lab) (m : Mat) (w : World) (hv : Labs w v ls) :
    Ret Tryd.prog 24 ⟨[v, .agg ⟨matC m⟩]⟩ w fun r w' => r = .bool (isB (getL ls) m) ∧ Ext w w' := by
  refine ret_of_G Tryd.func24 rfl Tryd.ntmps24 rfl ?_
  simp only [argEnv]
  try (first | refine gl tb ?_ | refine gg tb ?_ | refine ll tb ?_ | refine lg tb ?_); repeat ((first | refine G.condT rfl ?_ | refine G.condF rfl ?_); try (first | refine gl tb ?_ | refine gg tb ?_ | refine ll tb ?_ | refine lg tb ?_))
  refine GL.cons (Step.box rfl (Op1.of rfl (by first | exact fun _ => rfl | exact fun h => h | exact fun h => bL h | exact fun h => bL (bL h) | exact fun h => bL (bL (bL h)))) (rfl) rfl ?_)
  intro w1 hb1 hs1 hx1
  try (first | refine gl tb ?_ | refine gg tb ?_ | refine ll tb ?_ | refine lg tb ?_); repeat ((first | refine G.condT rfl ?_ | refine G.condF rfl ?_); try (first | refine gl tb ?_ | refine gg tb ?_ | refine ll tb ?_ | refine lg tb ?_))
  refine G.regionM [(0, true), (1, true), (2, true), (4, true), (5, true), (3, false), (6, true), (7, true)] (Ext w1) (by kernel_rfl) (by kernel_rfl) rfl mixed (Ext.drew w1) rfl ?_
  repeat (first
    | refine GM.nil ?_
    | refine GM.read (fun w' hS => Step.move rfl (Op1.of rfl (by first | exact fun _ => rfl | exact fun h => h | exact fun h => bL h | exact fun h => bL (bL h) | exact fun h => bL (bL (bL h)))) rfl ⟨rfl, rfl⟩) rfl rfl ?_
    | refine GM.read (fun w' hS => Step.assign rfl (Op1.of rfl (by first | exact fun _ => rfl | exact fun h => h | exact fun h => bL h | exact fun h => bL (bL h) | exact fun h => bL (bL (bL h)))) rfl ⟨rfl, rfl⟩) rfl rfl ?_
    | refine GM.read (fun w' hS => Step.bin rfl (Op1.of rfl (by first | exact fun _ => rfl | exact fun h => h | exact fun h => bL h | exact fun h => bL (bL h) | exact fun h => bL (bL (bL h)))) (Op1.of rfl (by first | exact fun _ => rfl | exact fun h => h | exact fun h => bL h | exact fun h => bL (bL h) | exact fun h => bL (bL (bL h)))) rfl rfl ⟨rfl, rfl⟩) rfl rfl ?_
    | refine GM.read (fun w' hS => Step.and rfl (Op1.of rfl (by first | exact fun _ => rfl | exact fun h => h | exact fun h => bL h | exact fun h => bL (bL h) | exact fun h => bL (bL (bL h)))) rfl (by first | exact fun _ _ => rfl | exact fun _ h => h | exact fun _ h => bNot h | exact fun h k => bAnd h k | exact fun h k => bAnd h (bNot k)) rfl ⟨rfl, rfl⟩) rfl rfl ?_
    | refine GM.read (fun w' hS => Step.or rfl (Op1.of rfl (by first | exact fun _ => rfl | exact fun h => h | exact fun h => bL h | exact fun h => bL (bL h) | exact fun h => bL (bL (bL h)))) rfl (by first | exact fun _ _ => rfl | exact fun _ h => h | exact fun _ h => bNot h | exact fun h k => bAnd h k | exact fun h k => bAnd h (bNot k)) rfl ⟨rfl, rfl⟩) rfl rfl ?_
    | refine GM.read (fun w' hS => Step.lenS tb rfl (Op1.of rfl (by first | exact fun _ => rfl | exact fun h => h | exact fun h => bL h | exact fun h => bL (bL h) | exact fun h => bL (bL (bL h)))) rfl rfl ⟨rfl, rfl⟩) rfl rfl ?_
    | refine GM.read (fun w' hS => Step.un rfl (Op1.of rfl (by first | exact fun _ => rfl | exact fun h => h | exact fun h => bL h | exact fun h => bL (bL h) | exact fun h => bL (bL (bL h)))) rfl rfl ⟨rfl, rfl⟩) rfl rfl ?_
    | refine GM.read (fun w' hS => Step.extract rfl (Op1.of rfl (by first | exact fun _ => rfl | exact fun h => h | exact fun h => bL h | exact fun h => bL (bL h) | exact fun h => bL (bL (bL h)))) rfl rfl ⟨rfl, rfl⟩) rfl rfl ?_)
  refine GM.read (fun w' hS => Step.fieldAddr tb rfl (Op1.of rfl (by first | exact fun _ => rfl | exact fun h => h | exact fun h => bL h | exact fun h => bL (bL h) | exact fun h => bL (bL (bL h)))) rfl rfl rfl rfl (fun hc => ((hb1.to hS).cells).ptr) rfl ⟨rfl, rfl⟩) rfl rfl ?_; refine GM.read (fun w' hS => Step.load1 tb rfl (Op1.of rfl (by first | exact fun _ => rfl | exact fun h => h | exact fun h => bL h | exact fun h => bL (bL h) | exact fun h => bL (bL (bL h)))) rfl rfl (fun hc => ((hb1.to hS).cells).cell (i := 1) rfl) rfl ⟨rfl, rfl⟩) rfl rfl ?_
  refine GM.read (fun w' hS => Step.fieldAddr tb rfl (Op1.of rfl (by first | exact fun _ => rfl | exact fun h => h | exact fun h => bL h | exact fun h => bL (bL h) | exact fun h => bL (bL (bL h)))) rfl rfl rfl rfl (fun hc => ((hb1.to hS).cells).ptr) rfl ⟨rfl, rfl⟩) rfl rfl ?_; refine GM.read (fun w' hS => Step.load1 tb rfl (Op1.of rfl (by first | exact fun _ => rfl | exact fun h => h | exact fun h => bL h | exact fun h => bL (bL h) | exact fun h => bL (bL (bL h)))) rfl rfl (fun hc => ((hb1.to hS).cells).cell (i := 2) rfl) rfl ⟨rfl, rfl⟩) rfl rfl ?_
  refine GM.eff (Step.callX rfl rfl (by repeat (first | exact OpL.nil | refine OpL.cons (Op1.of rfl (by first | exact fun _ => rfl | exact fun h => h | exact fun h => bL h | exact fun h => bL (bL h) | exact fun h => bL (bL (bL h)))) ?_)) c50 rfl (fun hc => get_ok v ls m.2.1 w1.drew (hv.to hx1.drew')) ?_)
  intro w2 hx2
  refine ⟨(Ext.drew w1).trans hx2, ?_⟩
  have hx : Ext w w2 := hx1.drew'.trans hx2
  have hb2 := hb1.drew.to hx2
  repeat (first
    | refine GM.nil ?_
    | refine GM.read (fun w' hS => Step.move rfl (Op1.of rfl (by first | exact fun _ => rfl | exact fun h => h | exact fun h => bL h | exact fun h => bL (bL h) | exact fun h => bL (bL (bL h)))) rfl ⟨rfl, rfl⟩) rfl rfl ?_
    | refine GM.read (fun w' hS => Step.assign rfl (Op1.of rfl (by first | exact fun _ => rfl | exact fun h => h | exact fun h => bL h | exact fun h => bL (bL h) | exact fun h => bL (bL (bL h)))) rfl ⟨rfl, rfl⟩) rfl rfl ?_
    | refine GM.read (fun w' hS => Step.bin rfl (Op1.of rfl (by first | exact fun _ => rfl | exact fun h => h | exact fun h => bL h | exact fun h => bL (bL h) | exact fun h => bL (bL (bL h)))) (Op1.of rfl (by first | exact fun _ => rfl | exact fun h => h | exact fun h => bL h | exact fun h => bL (bL h) | exact fun h => bL (bL (bL h)))) rfl rfl ⟨rfl, rfl⟩) rfl rfl ?_
    | refine GM.read (fun w' hS => Step.and rfl (Op1.of rfl (by first | exact fun _ => rfl | exact fun h => h | exact fun h => bL h | exact fun h => bL (bL h) | exact fun h => bL (bL (bL h)))) rfl (by first | exact fun _ _ => rfl | exact fun _ h => h | exact fun _ h => bNot h | exact fun h k => bAnd h k | exact fun h k => bAnd h (bNot k)) rfl ⟨rfl, rfl⟩) rfl rfl ?_
    | refine GM.read (fun w' hS => Step.or rfl (Op1.of rfl (by first | exact fun _ => rfl | exact fun h => h | exact fun h => bL h | exact fun h => bL (bL h) | exact fun h => bL (bL (bL h)))) rfl (by first | exact fun _ _ => rfl | exact fun _ h => h | exact fun _ h => bNot h | exact fun h k => bAnd h k | exact fun h k => bAnd h (bNot k)) rfl ⟨rfl, rfl⟩) rfl rfl ?_
    | refine GM.read (fun w' hS => Step.lenS tb rfl (Op1.of rfl (by first | exact fun _ => rfl | exact fun h => h | exact fun h => bL h | exact fun h => bL (bL h) | exact fun h => bL (bL (bL h)))) rfl rfl ⟨rfl, rfl⟩) rfl rfl ?_
    | refine GM.read (fun w' hS => Step.un rfl (Op1.of rfl (by first | exact fun _ => rfl | exact fun h => h | exact fun h => bL h | exact fun h => bL (bL h) | exact fun h => bL (bL (bL h)))) rfl rfl ⟨rfl, rfl⟩) rfl rfl ?_
    | refine GM.read (fun w' hS => Step.extract rfl (Op1.of rfl (by first | exact fun _ => rfl | exact fun h => h | exact fun h => bL h | exact fun h => bL (bL h) | exact fun h => bL (bL (bL h)))) rfl rfl ⟨rfl, rfl⟩) rfl rfl ?_)
  try (first | refine gl tb ?_ | refine gg tb ?_ | refine ll tb ?_ | refine lg tb ?_); repeat ((first | refine G.condT rfl ?_ | refine G.condF rfl ?_); try (first | refine gl tb ?_ | refine gg tb ?_ | refine ll tb ?_ | refine lg tb ?_))
  refine GL.cons (Step.fieldAddr tb rfl (Op1.of rfl (by first | exact fun _ => rfl | exact fun h => h | exact fun h => bL h | exact fun h => bL (bL h) | exact fun h => bL (bL (bL h)))) rfl rfl rfl rfl (fun _ => (hb2.cells).ptr) rfl ?_); refine GL.cons (Step.load1 tb rfl (Op1.of rfl (by first | exact fun _ => rfl | exact fun h => h | exact fun h => bL h | exact fun h => bL (bL h) | exact fun h => bL (bL (bL h)))) rfl rfl (fun _ => (hb2.cells).cell (i := 0) rfl) rfl ?_)
  try (first | refine gl tb ?_ | refine gg tb ?_ | refine ll tb ?_ | refine lg tb ?_); repeat ((first | refine G.condT rfl ?_ | refine G.condF rfl ?_); try (first | refine gl tb ?_ | refine gg tb ?_ | refine ll tb ?_ | refine lg tb ?_))
  have hk : isB (getL ls) m = if m.1 = 1 then decide (getL ls m.2.1 = m.2.2) else if m.1 = 2 then !decide (getL ls m.2.1 = m.2.2) else false := rfl
  rw [hk]
  first | refine G.condD rfl (fun hc => ?_) (fun hc => ?_) | refine G.condN rfl (fun hc => ?_) (fun hc => ?_) | refine G.cond rfl (fun hc => ?_) (fun hc => ?_)
  · rw [if_pos hc]
    try (first | refine gl tb ?_ | refine gg tb ?_ | refine ll tb ?_ | refine lg tb ?_); repeat ((first | refine G.condT rfl ?_ | refine G.condF rfl ?_); try (first | refine gl tb ?_ | refine gg tb ?_ | refine ll tb ?_ | refine lg tb ?_))
    refine G.ret1 rfl rfl rfl rfl ?_
    exact ⟨rfl, hx⟩
  · rw [if_neg hc]
    try (first | refine gl tb ?_ | refine gg tb ?_ | refine ll tb ?_ | refine lg tb ?_); repeat ((first | refine G.condT rfl ?_ | refine G.condF rfl ?_); try (first | refine gl tb ?_ | refine gg tb ?_ | refine ll tb ?_ | refine lg tb ?_))
    first | refine G.condD rfl (fun hc => ?_) (fun hc => ?_) | refine G.condN rfl (fun hc => ?_) (fun hc => ?_) | refine G.cond rfl (fun hc => ?_) (fun hc => ?_)
    · rw [if_pos hc]
      try (first | refine gl tb ?_ | refine gg tb ?_ | refine ll tb ?_ | refine lg tb ?_); repeat ((first | refine G.condT rfl ?_ | refine G.condF rfl ?_); try (first | refine gl tb ?_ | refine gg tb ?_ | refine ll tb ?_ | refine lg tb ?_))
      refine G.ret1 rfl rfl rfl rfl ?_
      exact ⟨rfl, hx⟩
    · rw [if_neg hc]
      try (first | refine gl tb ?_ | refine gg tb ?_ | refine ll tb ?_ | refine lg tb ?_); repeat ((first | refine G.condT rfl ?_ | refine G.condF rfl ?_); try (first | refine gl tb ?_ | refine gg tb ?_ | refine ll tb ?_ | refine lg tb ?_))
      refine G.ret1 rfl rfl rfl rfl ?_
      exact ⟨rfl, hx⟩
theorem refIs_ok (v : Value) (ls : List Lab) (m : Mat) (w : World) (hv : Labs w v ls) :
    Ret Tryd.prog 25 ⟨[v, .agg ⟨matC m⟩]⟩ w fun r w' => r = .bool (isB (getL ls) m) ∧ Ext w w' := by
  refine ret_of_G Tryd.func25 rfl Tryd.ntmps25 rfl ?_
  simp only [argEnv]
  try (first | refine gl tb ?_ | refine gg tb ?_ | refine ll tb ?_ | refine lg tb ?_); repeat ((first | refine G.condT rfl ?_ | refine G.condF rfl ?_); try (first | refine gl tb ?_ | refine gg tb ?_ | refine ll tb ?_ | refine lg tb ?_))
  refine GL.cons (Step.box rfl (Op1.of rfl (by first | exact fun _ => rfl | exact fun h => h | exact fun h => bL h | exact fun h => bL (bL h) | exact fun h => bL (bL (bL h)))) (rfl) rfl ?_)
  intro w1 hb1 hs1 hx1
  try (first | refine gl tb ?_ | refine gg tb ?_ | refine ll tb ?_ | refine lg tb ?_); repeat ((first | refine G.condT rfl ?_ | refine G.condF rfl ?_); try (first | refine gl tb ?_ | refine gg tb ?_ | refine ll tb ?_ | refine lg tb ?_))
  refine GL.cons (Step.fieldAddr tb rfl (Op1.of rfl (by first | exact fun _ => rfl | exact fun h => h | exact fun h => bL h | exact fun h => bL (bL h) | exact fun h => bL (bL (bL h)))) rfl rfl rfl rfl (fun _ => (hb1.cells).ptr) rfl ?_); refine GL.cons (Step.load1 tb rfl (Op1.of rfl (by first | exact fun _ => rfl | exact fun h => h | exact fun h => bL h | exact fun h => bL (bL h) | exact fun h => bL (bL (bL h)))) rfl rfl (fun _ => (hb1.cells).cell (i := 0) rfl) rfl ?_)
  try (first | refine gl tb ?_ | refine gg tb ?_ | refine ll tb ?_ | refine lg tb ?_); repeat ((first | refine G.condT rfl ?_ | refine G.condF rfl ?_); try (first | refine gl tb ?_ | refine gg tb ?_ | refine ll tb ?_ | refine lg tb ?_))
  have hk : isB (getL ls) m = if m.1 = 1 then decide (getL ls m.2.1 = m.2.2) else if m.1 = 2 then !decide (getL ls m.2.1 = m.2.2) else false := rfl
  rw [hk]
  first | refine G.condD rfl (fun hc => ?_) (fun hc => ?_) | refine G.condN rfl (fun hc => ?_) (fun hc => ?_) | refine G.cond rfl (fun hc => ?_) (fun hc => ?_)
  · rw [if_pos hc]
    try (first | refine gl tb ?_ | refine gg tb ?_ | refine ll tb ?_ | refine lg tb ?_); repeat ((first | refine G.condT rfl ?_ | refine G.condF rfl ?_); try (first | refine gl tb ?_ | refine gg tb ?_ | refine ll tb ?_ | refine lg tb ?_))
    refine G.regionM [(0, true), (1, true), (2, true), (4, true), (5, true), (3, false), (6, true), (7, true)] (Ext w1) (by kernel_rfl) (by kernel_rfl) rfl mixed (Ext.drew w1) rfl ?_
    repeat (first
    | refine GM.nil ?_
    | refine GM.read (fun w' hS => Step.move rfl (Op1.of rfl (by first | exact fun _ => rfl | exact fun h => h | exact fun h => bL h | exact fun h => bL (bL h) | exact fun h => bL (bL (bL h)))) rfl ⟨rfl, rfl⟩) rfl rfl ?_
    | refine GM.read (fun w' hS => Step.assign rfl (Op1.of rfl (by first | exact fun _ => rfl | exact fun h => h | exact fun h => bL h | exact fun h => bL (bL h) | exact fun h => bL (bL (bL h)))) rfl ⟨rfl, rfl⟩) rfl rfl ?_
    | refine GM.read (fun w' hS => Step.bin rfl (Op1.of rfl (by first | exact fun _ => rfl | exact fun h => h | exact fun h => bL h | exact fun h => bL (bL h) | exact fun h => bL (bL (bL h)))) (Op1.of rfl (by first | exact fun _ => rfl | exact fun h => h | exact fun h => bL h | exact fun h => bL (bL h) | exact fun h => bL (bL (bL h)))) rfl rfl ⟨rfl, rfl⟩) rfl rfl ?_
    | refine GM.read (fun w' hS => Step.and rfl (Op1.of rfl (by first | exact fun _ => rfl | exact fun h => h | exact fun h => bL h | exact fun h => bL (bL h) | exact fun h => bL (bL (bL h)))) rfl (by first | exact fun _ _ => rfl | exact fun _ h => h | exact fun _ h => bNot h | exact fun h k => bAnd h k | exact fun h k => bAnd h (bNot k)) rfl ⟨rfl, rfl⟩) rfl rfl ?_
    | refine GM.read (fun w' hS => Step.or rfl (Op1.of rfl (by first | exact fun _ => rfl | exact fun h => h | exact fun h => bL h | exact fun h => bL (bL h) | exact fun h => bL (bL (bL h)))) rfl (by first | exact fun _ _ => rfl | exact fun _ h => h | exact fun _ h => bNot h | exact fun h k => bAnd h k | exact fun h k => bAnd h (bNot k)) rfl ⟨rfl, rfl⟩) rfl rfl ?_
    | refine GM.read (fun w' hS => Step.lenS tb rfl (Op1.of rfl (by first | exact fun _ => rfl | exact fun h => h | exact fun h => bL h | exact fun h => bL (bL h) | exact fun h => bL (bL (bL h)))) rfl rfl ⟨rfl, rfl⟩) rfl rfl ?_
    | refine GM.read (fun w' hS => Step.un rfl (Op1.of rfl (by first | exact fun _ => rfl | exact fun h => h | exact fun h => bL h | exact fun h => bL (bL h) | exact fun h => bL (bL (bL h)))) rfl rfl ⟨rfl, rfl⟩) rfl rfl ?_
    | refine GM.read (fun w' hS => Step.extract rfl (Op1.of rfl (by first | exact fun _ => rfl | exact fun h => h | exact fun h => bL h | exact fun h => bL (bL h) | exact fun h => bL (bL (bL h)))) rfl rfl ⟨rfl, rfl⟩) rfl rfl ?_)
    refine GM.read (fun w' hS => Step.fieldAddr tb rfl (Op1.of rfl (by first | exact fun _ => rfl | exact fun h => h | exact fun h => bL h | exact fun h => bL (bL h) | exact fun h => bL (bL (bL h)))) rfl rfl rfl rfl (fun hc => ((hb1.to hS).cells).ptr) rfl ⟨rfl, rfl⟩) rfl rfl ?_; refine GM.read (fun w' hS => Step.load1 tb rfl (Op1.of rfl (by first | exact fun _ => rfl | exact fun h => h | exact fun h => bL h | exact fun h => bL (bL h) | exact fun h => bL (bL (bL h)))) rfl rfl (fun hc => ((hb1.to hS).cells).cell (i := 1) rfl) rfl ⟨rfl, rfl⟩) rfl rfl ?_
    refine GM.read (fun w' hS => Step.fieldAddr tb rfl (Op1.of rfl (by first | exact fun _ => rfl | exact fun h => h | exact fun h => bL h | exact fun h => bL (bL h) | exact fun h => bL (bL (bL h)))) rfl rfl rfl rfl (fun hc => ((hb1.to hS).cells).ptr) rfl ⟨rfl, rfl⟩) rfl rfl ?_; refine GM.read (fun w' hS => Step.load1 tb rfl (Op1.of rfl (by first | exact fun _ => rfl | exact fun h => h | exact fun h => bL h | exact fun h => bL (bL h) | exact fun h => bL (bL (bL h)))) rfl rfl (fun hc => ((hb1.to hS).cells).cell (i := 2) rfl) rfl ⟨rfl, rfl⟩) rfl rfl ?_
    refine GM.eff (Step.callX rfl rfl (by repeat (first | exact OpL.nil | refine OpL.cons (Op1.of rfl (by first | exact fun _ => rfl | exact fun h => h | exact fun h => bL h | exact fun h => bL (bL h) | exact fun h => bL (bL (bL h)))) ?_)) c51 rfl (fun hc => refGet_ok v ls m.2.1 w1.drew (hv.to hx1.drew')) ?_)
    intro w2 hx2
    refine ⟨(Ext.drew w1).trans hx2, ?_⟩
    repeat (first
    | refine GM.nil ?_
    | refine GM.read (fun w' hS => Step.move rfl (Op1.of rfl (by first | exact fun _ => rfl | exact fun h => h | exact fun h => bL h | exact fun h => bL (bL h) | exact fun h => bL (bL (bL h)))) rfl ⟨rfl, rfl⟩) rfl rfl ?_
    | refine GM.read (fun w' hS => Step.assign rfl (Op1.of rfl (by first | exact fun _ => rfl | exact fun h => h | exact fun h => bL h | exact fun h => bL (bL h) | exact fun h => bL (bL (bL h)))) rfl ⟨rfl, rfl⟩) rfl rfl ?_
    | refine GM.read (fun w' hS => Step.bin rfl (Op1.of rfl (by first | exact fun _ => rfl | exact fun h => h | exact fun h => bL h | exact fun h => bL (bL h) | exact fun h => bL (bL (bL h)))) (Op1.of rfl (by first | exact fun _ => rfl | exact fun h => h | exact fun h => bL h | exact fun h => bL (bL h) | exact fun h => bL (bL (bL h)))) rfl rfl ⟨rfl, rfl⟩) rfl rfl ?_
    | refine GM.read (fun w' hS => Step.and rfl (Op1.of rfl (by first | exact fun _ => rfl | exact fun h => h | exact fun h => bL h | exact fun h => bL (bL h) | exact fun h => bL (bL (bL h)))) rfl (by first | exact fun _ _ => rfl | exact fun _ h => h | exact fun _ h => bNot h | exact fun h k => bAnd h k | exact fun h k => bAnd h (bNot k)) rfl ⟨rfl, rfl⟩) rfl rfl ?_
    | refine GM.read (fun w' hS => Step.or rfl (Op1.of rfl (by first | exact fun _ => rfl | exact fun h => h | exact fun h => bL h | exact fun h => bL (bL h) | exact fun h => bL (bL (bL h)))) rfl (by first | exact fun _ _ => rfl | exact fun _ h => h | exact fun _ h => bNot h | exact fun h k => bAnd h k | exact fun h k => bAnd h (bNot k)) rfl ⟨rfl, rfl⟩) rfl rfl ?_
    | refine GM.read (fun w' hS => Step.lenS tb rfl (Op1.of rfl (by first | exact fun _ => rfl | exact fun h => h | exact fun h => bL h | exact fun h => bL (bL h) | exact fun h => bL (bL (bL h)))) rfl rfl ⟨rfl, rfl⟩) rfl rfl ?_
    | refine GM.read (fun w' hS => Step.un rfl (Op1.of rfl (by first | exact fun _ => rfl | exact fun h => h | exact fun h => bL h | exact fun h => bL (bL h) | exact fun h => bL (bL (bL h)))) rfl rfl ⟨rfl, rfl⟩) rfl rfl ?_
    | refine GM.read (fun w' hS => Step.extract rfl (Op1.of rfl (by first | exact fun _ => rfl | exact fun h => h | exact fun h => bL h | exact fun h => bL (bL h) | exact fun h => bL (bL (bL h)))) rfl rfl ⟨rfl, rfl⟩) rfl rfl ?_)
    try (first | refine gl tb ?_ | refine gg tb ?_ | refine ll tb ?_ | refine lg tb ?_); repeat ((first | refine G.condT rfl ?_ | refine G.condF rfl ?_); try (first | refine gl tb ?_ | refine gg tb ?_ | refine ll tb ?_ | refine lg tb ?_))
    refine G.ret1 rfl rfl rfl rfl ?_
    exact ⟨rfl, hx1.drew'.trans hx2⟩
  · rw [if_neg hc]
    try (first | refine gl tb ?_ | refine gg tb ?_ | refine ll tb ?_ | refine lg tb ?_); repeat ((first | refine G.condT rfl ?_ | refine G.condF rfl ?_); try (first | refine gl tb ?_ | refine gg tb ?_ | refine ll tb ?_ | refine lg tb ?_))
    first | refine G.condD rfl (fun hc => ?_) (fun hc => ?_) | refine G.condN rfl (fun hc => ?_) (fun hc => ?_) | refine G.cond rfl (fun hc => ?_) (fun hc => ?_)
    · rw [if_pos hc]
      try (first | refine gl tb ?_ | refine gg tb ?_ | refine ll tb ?_ | refine lg tb ?_); repeat ((first | refine G.condT rfl ?_ | refine G.condF rfl ?_); try (first | refine gl tb ?_ | refine gg tb ?_ | refine ll tb ?_ | refine lg tb ?_))
      refine G.regionM [(0, true), (1, true), (2, true), (4, true), (5, true), (3, false), (6, true), (7, true)] (Ext w1) (by kernel_rfl) (by kernel_rfl) rfl mixed (Ext.drew w1) rfl ?_
      repeat (first
    | refine GM.nil ?_
    | refine GM.read (fun w' hS => Step.move rfl (Op1.of rfl (by first | exact fun _ => rfl | exact fun h => h | exact fun h => bL h | exact fun h => bL (bL h) | exact fun h => bL (bL (bL h)))) rfl ⟨rfl, rfl⟩) rfl rfl ?_
    | refine GM.read (fun w' hS => Step.assign rfl (Op1.of rfl (by first | exact fun _ => rfl | exact fun h => h | exact fun h => bL h | exact fun h => bL (bL h) | exact fun h => bL (bL (bL h)))) rfl ⟨rfl, rfl⟩) rfl rfl ?_
    | refine GM.read (fun w' hS => Step.bin rfl (Op1.of rfl (by first | exact fun _ => rfl | exact fun h => h | exact fun h => bL h | exact fun h => bL (bL h) | exact fun h => bL (bL (bL h)))) (Op1.of rfl (by first | exact fun _ => rfl | exact fun h => h | exact fun h => bL h | exact fun h => bL (bL h) | exact fun h => bL (bL (bL h)))) rfl rfl ⟨rfl, rfl⟩) rfl rfl ?_
    | refine GM.read (fun w' hS => Step.and rfl (Op1.of rfl (by first | exact fun _ => rfl | exact fun h => h | exact fun h => bL h | exact fun h => bL (bL h) | exact fun h => bL (bL (bL h)))) rfl (by first | exact fun _ _ => rfl | exact fun _ h => h | exact fun _ h => bNot h | exact fun h k => bAnd h k | exact fun h k => bAnd h (bNot k)) rfl ⟨rfl, rfl⟩) rfl rfl ?_
    | refine GM.read (fun w' hS => Step.or rfl (Op1.of rfl (by first | exact fun _ => rfl | exact fun h => h | exact fun h => bL h | exact fun h => bL (bL h) | exact fun h => bL (bL (bL h)))) rfl (by first | exact fun _ _ => rfl | exact fun _ h => h | exact fun _ h => bNot h | exact fun h k => bAnd h k | exact fun h k => bAnd h (bNot k)) rfl ⟨rfl, rfl⟩) rfl rfl ?_
    | refine GM.read (fun w' hS => Step.lenS tb rfl (Op1.of rfl (by first | exact fun _ => rfl | exact fun h => h | exact fun h => bL h | exact fun h => bL (bL h) | exact fun h => bL (bL (bL h)))) rfl rfl ⟨rfl, rfl⟩) rfl rfl ?_
    | refine GM.read (fun w' hS => Step.un rfl (Op1.of rfl (by first | exact fun _ => rfl | exact fun h => h | exact fun h => bL h | exact fun h => bL (bL h) | exact fun h => bL (bL (bL h)))) rfl rfl ⟨rfl, rfl⟩) rfl rfl ?_
    | refine GM.read (fun w' hS => Step.extract rfl (Op1.of rfl (by first | exact fun _ => rfl | exact fun h => h | exact fun h => bL h | exact fun h => bL (bL h) | exact fun h => bL (bL (bL h)))) rfl rfl ⟨rfl, rfl⟩) rfl rfl ?_)
      refine GM.read (fun w' hS => Step.fieldAddr tb rfl (Op1.of rfl (by first | exact fun _ => rfl | exact fun h => h | exact fun h => bL h | exact fun h => bL (bL h) | exact fun h => bL (bL (bL h)))) rfl rfl rfl rfl (fun hc => ((hb1.to hS).cells).ptr) rfl ⟨rfl, rfl⟩) rfl rfl ?_; refine GM.read (fun w' hS => Step.load1 tb rfl (Op1.of rfl (by first | exact fun _ => rfl | exact fun h => h | exact fun h => bL h | exact fun h => bL (bL h) | exact fun h => bL (bL (bL h)))) rfl rfl (fun hc => ((hb1.to hS).cells).cell (i := 1) rfl) rfl ⟨rfl, rfl⟩) rfl rfl ?_
      refine GM.read (fun w' hS => Step.fieldAddr tb rfl (Op1.of rfl (by first | exact fun _ => rfl | exact fun h => h | exact fun h => bL h | exact fun h => bL (bL h) | exact fun h => bL (bL (bL h)))) rfl rfl rfl rfl (fun hc => ((hb1.to hS).cells).ptr) rfl ⟨rfl, rfl⟩) rfl rfl ?_; refine GM.read (fun w' hS => Step.load1 tb rfl (Op1.of rfl (by first | exact fun _ => rfl | exact fun h => h | exact fun h => bL h | exact fun h => bL (bL h) | exact fun h => bL (bL (bL h)))) rfl rfl (fun hc => ((hb1.to hS).cells).cell (i := 2) rfl) rfl ⟨rfl, rfl⟩) rfl rfl ?_
      refine GM.eff (Step.callX rfl rfl (by repeat (first | exact OpL.nil | refine OpL.cons (Op1.of rfl (by first | exact fun _ => rfl | exact fun h => h | exact fun h => bL h | exact fun h => bL (bL h) | exact fun h => bL (bL (bL h)))) ?_)) c51 rfl (fun hc => refGet_ok v ls m.2.1 w1.drew (hv.to hx1.drew')) ?_)
      intro w2 hx2
      refine ⟨(Ext.drew w1).trans hx2, ?_⟩
      repeat (first
    | refine GM.nil ?_
    | refine GM.read (fun w' hS => Step.move rfl (Op1.of rfl (by first | exact fun _ => rfl | exact fun h => h | exact fun h => bL h | exact fun h => bL (bL h) | exact fun h => bL (bL (bL h)))) rfl ⟨rfl, rfl⟩) rfl rfl ?_
    | refine GM.read (fun w' hS => Step.assign rfl (Op1.of rfl (by first | exact fun _ => rfl | exact fun h => h | exact fun h => bL h | exact fun h => bL (bL h) | exact fun h => bL (bL (bL h)))) rfl ⟨rfl, rfl⟩) rfl rfl ?_
    | refine GM.read (fun w' hS => Step.bin rfl (Op1.of rfl (by first | exact fun _ => rfl | exact fun h => h | exact fun h => bL h | exact fun h => bL (bL h) | exact fun h => bL (bL (bL h)))) (Op1.of rfl (by first | exact fun _ => rfl | exact fun h => h | exact fun h => bL h | exact fun h => bL (bL h) | exact fun h => bL (bL (bL h)))) rfl rfl ⟨rfl, rfl⟩) rfl rfl ?_
    | refine GM.read (fun w' hS => Step.and rfl (Op1.of rfl (by first | exact fun _ => rfl | exact fun h => h | exact fun h => bL h | exact fun h => bL (bL h) | exact fun h => bL (bL (bL h)))) rfl (by first | exact fun _ _ => rfl | exact fun _ h => h | exact fun _ h => bNot h | exact fun h k => bAnd h k | exact fun h k => bAnd h (bNot k)) rfl ⟨rfl, rfl⟩) rfl rfl ?_
    | refine GM.read (fun w' hS => Step.or rfl (Op1.of rfl (by first | exact fun _ => rfl | exact fun h => h | exact fun h => bL h | exact fun h => bL (bL h) | exact fun h => bL (bL (bL h)))) rfl (by first | exact fun _ _ => rfl | exact fun _ h => h | exact fun _ h => bNot h | exact fun h k => bAnd h k | exact fun h k => bAnd h (bNot k)) rfl ⟨rfl, rfl⟩) rfl rfl ?_
    | refine GM.read (fun w' hS => Step.lenS tb rfl (Op1.of rfl (by first | exact fun _ => rfl | exact fun h => h | exact fun h => bL h | exact fun h => bL (bL h) | exact fun h => bL (bL (bL h)))) rfl rfl ⟨rfl, rfl⟩) rfl rfl ?_
    | refine GM.read (fun w' hS => Step.un rfl (Op1.of rfl (by first | exact fun _ => rfl | exact fun h => h | exact fun h => bL h | exact fun h => bL (bL h) | exact fun h => bL (bL (bL h)))) rfl rfl ⟨rfl, rfl⟩) rfl rfl ?_
    | refine GM.read (fun w' hS => Step.extract rfl (Op1.of rfl (by first | exact fun _ => rfl | exact fun h => h | exact fun h => bL h | exact fun h => bL (bL h) | exact fun h => bL (bL (bL h)))) rfl rfl ⟨rfl, rfl⟩) rfl rfl ?_)
      try (first | refine gl tb ?_ | refine gg tb ?_ | refine ll tb ?_ | refine lg tb ?_); repeat ((first | refine G.condT rfl ?_ | refine G.condF rfl ?_); try (first | refine gl tb ?_ | refine gg tb ?_ | refine ll tb ?_ | refine lg tb ?_))
      refine G.ret1 rfl rfl rfl rfl ?_
      exact ⟨rfl, hx1.drew'.trans hx2⟩
    · rw [if_neg hc]
      try (first | refine gl tb ?_ | refine gg tb ?_ | refine ll tb ?_ | refine lg tb ?_); repeat ((first | refine G.condT rfl ?_ | refine G.condF rfl ?_); try (first | refine gl tb ?_ | refine gg tb ?_ | refine ll tb ?_ | refine lg tb ?_))
      refine G.ret1 rfl rfl rfl rfl ?_
      exact ⟨rfl, hx1⟩
end Go.Proofs.YtfffblopkaandaaDoor
