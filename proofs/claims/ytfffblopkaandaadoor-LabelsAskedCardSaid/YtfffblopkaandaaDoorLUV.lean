/- UTF-8 as the library reads it is UTF-8 as the reference reads it; plain. -/
import Derived.Test.YtfffblopkaandaaDoorGL1
import Derived.Lib.ValidLaws
open Go Go.Vg Go.RowKit Go.Proofs Go.Proofs.YtfffblopkaandaaDoor
namespace Go.Proofs.YtfffblopkaandaaDoor
set_option linter.unusedSimpArgs false

def u8N (n b0 b1 b2 b3 : Nat) : Nat :=
  if b0 < 128 then 1
  else if b0 / 32 = 6 then (if 1 < n ∧ b1 / 64 = 2 ∧ 128 ≤ b0 % 32 * 64 + b1 % 64 then 2 else 0)
  else if b0 / 16 = 14 then (if 2 < n ∧ b1 / 64 = 2 ∧ b2 / 64 = 2 ∧ 2048 ≤ b0 % 16 * 4096 + b1 % 64 * 64 + b2 % 64 ∧ ¬ (55296 ≤ b0 % 16 * 4096 + b1 % 64 * 64 + b2 % 64 ∧ b0 % 16 * 4096 + b1 % 64 * 64 + b2 % 64 ≤ 57343) then 3 else 0)
  else if b0 / 8 = 30 then (if 3 < n ∧ b1 / 64 = 2 ∧ b2 / 64 = 2 ∧ b3 / 64 = 2 ∧ 65536 ≤ b0 % 8 * 262144 + b1 % 64 * 4096 + b2 % 64 * 64 + b3 % 64 ∧ b0 % 8 * 262144 + b1 % 64 * 4096 + b2 % 64 * 64 + b3 % 64 ≤ 1114111 then 4 else 0)
  else 0

theorem u8N_decode (n b0 b1 b2 b3 : Nat) : (u8N n b0 b1 b2 b3 = 0 ∧ Lib.decodeN n b0 b1 b2 b3 = (65533, 1)) ∨ (u8N n b0 b1 b2 b3 ≠ 0 ∧ (Lib.decodeN n b0 b1 b2 b3).2 = u8N n b0 b1 b2 b3 ∧ ¬ ((Lib.decodeN n b0 b1 b2 b3).1 = 65533 ∧ (Lib.decodeN n b0 b1 b2 b3).2 = 1)) := by
  unfold u8N Lib.decodeN
  repeat' split
  all_goals first | (exfalso; omega) | (left; exact ⟨rfl, rfl⟩) | (right; refine ⟨by omega, rfl, ?_⟩; simp only; omega)

theorem byteN (s : List UInt8) (i : Nat) : byteI s i = (((s.getD i 0).toNat : Nat) : Int) := rfl
set_option maxHeartbeats 1000000 in
theorem u8len_N (s : List UInt8) (i : Nat) (hi : i < s.length) : u8len s i = u8N (s.length - i) (s.getD i 0).toNat (s.getD (i + 1) 0).toNat (s.getD (i + 2) 0).toNat (s.getD (i + 3) 0).toNat := by
  have h0 := (s.getD i 0).toNat_lt
  have h1 := (s.getD (i + 1) 0).toNat_lt
  have h2 := (s.getD (i + 2) 0).toNat_lt
  have h3 := (s.getD (i + 3) 0).toNat_lt
  unfold u8len
  rw [byteN]
  have e1 := byteN s (i + 1)
  have e2 := byteN s (i + 2)
  have e3 := byteN s (i + 3)
  generalize (s.getD i 0).toNat = b0 at h0 ⊢
  generalize (s.getD (i + 1) 0).toNat = b1 at h1 e1 ⊢
  generalize (s.getD (i + 2) 0).toNat = b2 at h2 e2 ⊢
  generalize (s.getD (i + 3) 0).toNat = b3 at h3 e3 ⊢
  obtain ⟨n, hn⟩ : ∃ n, n = s.length - i := ⟨_, rfl⟩
  rw [← hn]
  unfold lead
  by_cases c4 : 240 ≤ b0 ∧ b0 < 248
  · rw [if_pos (by omega)]
    simp only [u8n, show (4 - 1 : Nat) = 3 from rfl, contTo, Nat.zero_add, e1, e2, e3]
    unfold u8N badRune
    rw [if_neg (by omega : ¬ b0 < 128), if_neg (by omega : ¬ b0 / 32 = 6), if_neg (by omega : ¬ b0 / 16 = 14), if_pos (by omega : b0 / 8 = 30)]
    by_cases hl : s.length < i + 4
    · rw [if_pos hl, if_neg (by omega)]
    · rw [if_neg hl]
      by_cases k1 : (b1 : Int) < 128 ∨ 192 ≤ (b1 : Int)
      · simp only [k1, if_true]; rw [if_neg (by omega)]
      · simp only [k1, if_false]
        by_cases k2 : (b2 : Int) < 128 ∨ 192 ≤ (b2 : Int)
        · simp only [k2, if_true]; rw [if_neg (by omega)]
        · simp only [k2, if_false]
          by_cases k3 : (b3 : Int) < 128 ∨ 192 ≤ (b3 : Int)
          · simp only [k3, if_true]; rw [if_neg (by omega)]
          · simp only [k3, if_false, Bool.or_eq_true, Bool.and_eq_true, decide_eq_true_eq]
            split <;> split <;> first | rfl | (exfalso; omega)
  · rw [if_neg (by omega)]
    by_cases c3 : 224 ≤ b0 ∧ b0 < 240
    · rw [if_pos (by omega)]
      simp only [u8n, show (3 - 1 : Nat) = 2 from rfl, contTo, Nat.zero_add, e1, e2]
      unfold u8N badRune
      rw [if_neg (by omega : ¬ b0 < 128), if_neg (by omega : ¬ b0 / 32 = 6), if_pos (by omega : b0 / 16 = 14)]
      by_cases hl : s.length < i + 3
      · rw [if_pos hl, if_neg (by omega)]
      · rw [if_neg hl]
        by_cases k1 : (b1 : Int) < 128 ∨ 192 ≤ (b1 : Int)
        · simp only [k1, if_true]; rw [if_neg (by omega)]
        · simp only [k1, if_false]
          by_cases k2 : (b2 : Int) < 128 ∨ 192 ≤ (b2 : Int)
          · simp only [k2, if_true]; rw [if_neg (by omega)]
          · simp only [k2, if_false, Bool.or_eq_true, Bool.and_eq_true, decide_eq_true_eq]
            split <;> split <;> first | rfl | (exfalso; omega)
    · rw [if_neg (by omega)]
      by_cases c2 : 192 ≤ b0 ∧ b0 < 224
      · rw [if_pos (by omega)]
        simp only [u8n, show (2 - 1 : Nat) = 1 from rfl, contTo, Nat.zero_add, e1]
        unfold u8N badRune
        rw [if_neg (by omega : ¬ b0 < 128), if_pos (by omega : b0 / 32 = 6)]
        by_cases hl : s.length < i + 2
        · rw [if_pos hl, if_neg (by omega)]
        · rw [if_neg hl]
          by_cases k1 : (b1 : Int) < 128 ∨ 192 ≤ (b1 : Int)
          · simp only [k1, if_true]; rw [if_neg (by omega)]
          · simp only [k1, if_false, Bool.or_eq_true, Bool.and_eq_true, decide_eq_true_eq]
            split <;> split <;> first | rfl | (exfalso; omega)
      · rw [if_neg (by omega)]
        by_cases c1 : 128 ≤ b0
        · rw [if_pos (by omega)]
          unfold u8N
          rw [if_neg (by omega : ¬ b0 < 128), if_neg (by omega : ¬ b0 / 32 = 6), if_neg (by omega : ¬ b0 / 16 = 14), if_neg (by omega : ¬ b0 / 8 = 30)]
        · rw [if_neg (by omega)]
          simp only [u8n, show (1 - 1 : Nat) = 0 from rfl, contTo]
          unfold u8N badRune
          rw [if_pos (by omega : b0 < 128), if_neg (by omega), if_neg (by simp; omega)]

theorem getD_drop (s : List UInt8) (i k : Nat) : (s.drop i).getD k 0 = s.getD (i + k) 0 := by simp [List.getD]
theorem validGo_D (s : List UInt8) : ∀ (m i : Nat), s.length - i = m → i ≤ s.length → validGo s (s.length - i) i = Lib.validD (s.drop i) := by
  intro m
  induction m using Nat.strongRecOn with
  | _ m ih =>
    intro i hm hi
    by_cases he : i = s.length
    · subst he
      rw [List.drop_length, Lib.validD_nil, validGo_end _ _ _ (Nat.le_refl _)]
    · have hlt : i < s.length := by omega
      have hne : s.drop i ≠ [] := by intro h; rw [List.drop_eq_nil_iff] at h; omega
      rw [Lib.validD_step _ hne, Lib.decodeL_N, getD_drop, getD_drop, getD_drop, getD_drop, List.length_drop, Nat.add_zero]
      have hN := u8len_N s i hlt
      rcases u8N_decode (s.length - i) (s.getD i 0).toNat (s.getD (i + 1) 0).toNat (s.getD (i + 2) 0).toNat (s.getD (i + 3) 0).toNat with ⟨h1, h2⟩ | ⟨h1, h2, h3⟩
      · rw [h1] at hN
        rw [h2, validGo_no hlt hN]; simp
      · rw [← hN] at h1 h2
        have hle := u8len_le s i hi
        rw [if_neg h3, h2, validGo_step hlt h1, ih (s.length - (i + u8len s i)) (by omega) (i + u8len s i) rfl hle, List.drop_drop]
theorem validU_D (s : List UInt8) : validU s = Lib.validD s := by
  have := validGo_D s s.length 0 (by omega) (by omega)
  simpa [validU] using this
end Go.Proofs.YtfffblopkaandaaDoor
