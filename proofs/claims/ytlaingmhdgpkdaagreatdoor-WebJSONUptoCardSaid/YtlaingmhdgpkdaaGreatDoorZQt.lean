/- A text in JSON, in plain words. -/
import Derived.Test.YtlaingmhdgpkdaaGreatDoorZEs
open Go Go.Vg Go.RowKit Go.Proofs Go.Proofs.YtlaingmhdgpkdaaGreatDoor
namespace Go.Proofs.YtlaingmhdgpkdaaGreatDoor
set_option linter.unusedSimpArgs false

def fffdQ : List UInt8 := [92, 117, 102, 102, 102, 100]
/-- a byte below 128, quoted -/
def q1 (c : UInt8) : List UInt8 := if c = 34 ∨ c = 92 then [92, c] else if c = 10 then [92, 110] else if c = 13 then [92, 114] else if c = 9 then [92, 116]
  else if c.toNat < 32 then [92, 117, 48, 48, hexS.getD (c.toNat / 16) 0, hexS.getD (c.toNat % 16) 0] else [c]
def pieceQ (s : List UInt8) (i : Nat) : List UInt8 := if u8len s i = 0 then fffdQ else if (s.getD i 0).toNat < 128 then q1 (s.getD i 0) else (s.drop i).take (u8len s i)
def stepQ (s : List UInt8) (i : Nat) : Nat := if u8len s i = 0 then 1 else u8len s i
def quoteF (s : List UInt8) : Nat → Nat → List UInt8
  | 0, _ => []
  | m + 1, i => if s.length ≤ i then [] else pieceQ s i ++ quoteF s m (i + stepQ s i)
def quoteP (s : List UInt8) : List UInt8 := [34] ++ quoteF s s.length 0 ++ [34]
theorem stepQ_pos (s : List UInt8) (i : Nat) : 0 < stepQ s i := by unfold stepQ; split <;> omega
theorem stepQ_le {s : List UInt8} {i : Nat} (hi : i < s.length) : i + stepQ s i ≤ s.length := by
  have := u8len_le s i (by omega)
  unfold stepQ; split <;> omega
theorem q1_len (c : UInt8) : 1 ≤ (q1 c).length ∧ (q1 c).length ≤ 6 := by
  unfold q1
  repeat' split
  all_goals simp
theorem pieceQ_len {s : List UInt8} {i : Nat} (hi : i < s.length) : (pieceQ s i).length ≤ 6 * stepQ s i := by
  have hle := u8len_le s i (by omega)
  unfold pieceQ stepQ
  split
  · simp [fffdQ]
  · split
    · have := q1_len (s.getD i 0); omega
    · rw [List.length_take, List.length_drop]; omega
theorem quoteF_fuel (s : List UInt8) : ∀ (m k i : Nat), s.length - i ≤ m → s.length - i ≤ k → quoteF s m i = quoteF s k i := by
  intro m
  induction m with
  | zero =>
    intro k i h _
    cases k with
    | zero => rfl
    | succ k => simp only [quoteF]; rw [if_pos (by omega)]
  | succ m ih =>
    intro k i h h2
    cases k with
    | zero => simp only [quoteF]; rw [if_pos (by omega)]
    | succ k =>
      simp only [quoteF]
      by_cases he : s.length ≤ i
      · rw [if_pos he, if_pos he]
      · rw [if_neg he, if_neg he]
        have := stepQ_pos s i
        rw [ih k (i + stepQ s i) (by omega) (by omega)]
theorem quoteF_step {s : List UInt8} {i : Nat} (hi : i < s.length) : quoteF s (s.length - i) i = pieceQ s i ++ quoteF s (s.length - (i + stepQ s i)) (i + stepQ s i) := by
  have := stepQ_pos s i
  rw [quoteF_fuel s (s.length - i) ((s.length - i - 1) + 1) i (by omega) (by omega), quoteF, if_neg (by omega)]
  rw [quoteF_fuel s (s.length - i - 1) (s.length - (i + stepQ s i)) (i + stepQ s i) (by omega) (by omega)]
theorem quoteF_len (s : List UInt8) : ∀ (m i : Nat), i ≤ s.length → (quoteF s m i).length ≤ 6 * (s.length - i)
  | 0, i, _ => by simp [quoteF]
  | m + 1, i, hi => by
    simp only [quoteF]
    by_cases he : s.length ≤ i
    · rw [if_pos he]; simp
    · rw [if_neg he, List.length_append]
      have h1 := quoteF_len s m (i + stepQ s i) (stepQ_le (by omega))
      have h2 := pieceQ_len (s := s) (i := i) (by omega)
      have h3 := stepQ_le (s := s) (i := i) (by omega)
      omega
theorem quoteP_len (s : List UInt8) : (quoteP s).length ≤ 6 * s.length + 2 := by
  have := quoteF_len s s.length 0 (by omega)
  unfold quoteP
  simp only [List.length_append, List.length_cons, List.length_nil]; omega

/-! ### what the library's decoding says -/
theorem decodeN_1 (n b0 b1 b2 b3 : Nat) : (b0 < 128 → Lib.decodeN n b0 b1 b2 b3 = (b0, 1)) ∧ (128 ≤ b0 → 128 ≤ (Lib.decodeN n b0 b1 b2 b3).1) := by
  unfold Lib.decodeN
  repeat' split
  all_goals first | (exfalso; omega) | (refine ⟨fun _ => by first | rfl | (exfalso; omega), fun _ => by simp only; omega⟩)
theorem u8len_asc {s : List UInt8} {i : Nat} (hi : i < s.length) (h : (s.getD i 0).toNat < 128) : u8len s i = 1 := by
  rw [u8len_N s i hi]; unfold u8N; rw [if_pos h]
end Go.Proofs.YtlaingmhdgpkdaaGreatDoor
