/- A repeat means what its thing, written so often, means. -/
import Derived.Test.YtbpkhgehchelhaaDoorGR1
namespace Go.Rx
def brs (lo hi : Nat) : Nat → List UInt8
  | 0 => [123, UInt8.ofNat (48 + lo), 125]
  | 1 => [123, UInt8.ofNat (48 + lo), 44, UInt8.ofNat (48 + hi), 125]
  | 2 => [43]
  | _ => [63]
def frm (lo : Nat) : Nat → Nat
  | 0 => lo
  | 1 => lo
  | 2 => 1
  | _ => 0
def upto (lo hi : Nat) : Nat → Nat
  | 0 => lo
  | 1 => hi
  | 2 => 5
  | _ => 1
theorem upto_le {lo hi k : Nat} (h1 : lo ≤ 2) (h2 : hi ≤ lo + 2) : upto lo hi k ≤ 5 := by
  rcases k with _ | _ | _ | k
  · show lo ≤ 5; omega
  · show hi ≤ 5; omega
  · exact Nat.le_refl _
  · show 1 ≤ 5; omega
theorem frm_le {lo hi k : Nat} (h : lo ≤ hi) : frm lo k ≤ upto lo hi k := by
  rcases k with _ | _ | _ | k
  · exact Nat.le_refl _
  · exact h
  · show 1 ≤ 5; omega
  · show 0 ≤ 1; omega
theorem rept_brs {lo hi k : Nat} (hk : k < 4) (h1 : lo ≤ 2) (h2 : lo ≤ hi) (h3 : hi ≤ lo + 2) :
    ∃ mn mx plus, rept (brs lo hi k) 0 = .ok (some (mn, mx, plus, (brs lo hi k).length)) ∧
      ∀ n, (if plus = true then 1 ≤ n else mn ≤ n ∧ (mx < 0 ∨ n ≤ mn + (mx.toNat - mn))) ↔ (frm lo k ≤ n ∧ (k = 2 ∨ n ≤ upto lo hi k)) := by
  rcases (show k = 0 ∨ k = 1 ∨ k = 2 ∨ k = 3 by omega) with rfl | rfl | rfl | rfl
  · refine ⟨lo, lo, false, ?_, fun n => ?_⟩
    · rcases (show lo = 0 ∨ lo = 1 ∨ lo = 2 by omega) with rfl | rfl | rfl <;> rfl
    · simp only [Bool.false_eq_true, if_false, frm, upto]; omega
  · refine ⟨lo, hi, false, ?_, fun n => ?_⟩
    · rcases (show lo = 0 ∨ lo = 1 ∨ lo = 2 by omega) with rfl | rfl | rfl
      · rcases (show hi = 0 ∨ hi = 1 ∨ hi = 2 by omega) with rfl | rfl | rfl <;> rfl
      · rcases (show hi = 1 ∨ hi = 2 ∨ hi = 3 by omega) with rfl | rfl | rfl <;> rfl
      · rcases (show hi = 2 ∨ hi = 3 ∨ hi = 4 by omega) with rfl | rfl | rfl <;> rfl
    · simp only [Bool.false_eq_true, if_false, frm, upto]; omega
  · exact ⟨1, -1, true, rfl, fun n => by simp [frm]⟩
  · refine ⟨0, 1, false, rfl, fun n => ?_⟩
    simp only [Bool.false_eq_true, if_false, frm, upto]; omega
/-- the rows, as the law writes them -/
def rows (s : List UInt8) (lo hi k : Nat) : List UInt8 := ths s (frm lo k) ++ ors s (frm lo k) (upto lo hi k - frm lo k)
theorem rows_err {s : List UInt8} {ts : T} {gs lo hi k : Nat} (hs : readP s = .ok (ts, gs)) {e f : Nat} (h : comp (rows s lo hi k) = .error (e, f)) : f = 2 := by
  obtain ⟨u, g', hu, -⟩ := read_rows hs (frm lo k) (upto lo hi k - frm lo k)
  rcases comp_read hu with h' | h'
  · unfold rows at h; rw [h'] at h; cases h
  · unfold rows at h; rw [h'] at h; cases h; rfl
theorem reps_err {s : List UInt8} {ts : T} {gs lo hi k : Nat} (hk : k < 4) (h1 : lo ≤ 2) (h2 : lo ≤ hi) (h3 : hi ≤ lo + 2) (hs : readP s = .ok (ts, gs)) {e f : Nat} (h : comp (th s ++ brs lo hi k) = .error (e, f)) : f = 2 := by
  obtain ⟨mn, mx, plus, hr, -⟩ := rept_brs hk h1 h2 h3
  rcases comp_read (read_rep hs (rept_th hr)) with h' | h'
  · rw [h'] at h; cases h
  · rw [h'] at h; cases h; rfl
theorem law_reps {s : List UInt8} {ts : T} {gs lo hi k : Nat} (hk : k < 4) (h1 : lo ≤ 2) (h2 : lo ≤ hi) (h3 : hi ≤ lo + 2) (hs : readP s = .ok (ts, gs)) {t u : T} {g g' : Nat} (ht : comp (th s ++ brs lo hi k) = .ok (t, g)) (hu : comp (rows s lo hi k) = .ok (u, g'))
    (x : List UInt8) (hx : k = 2 → x.length ≤ 5) : mt t g x = mt u g' x := by
  obtain ⟨mn, mx, plus, hr, hb⟩ := rept_brs hk h1 h2 h3
  have hrt := read_rep hs (rept_th (a := s) hr)
  obtain ⟨u', gu, hru, hd⟩ := read_rows hs (frm lo k) (upto lo hi k - frm lo k)
  have e1 := (comp_ok ht).1
  have e2 := (comp_ok hu).1
  unfold rows at e2
  rw [hrt] at e1
  rw [hru] at e2
  simp only [Except.ok.injEq, Prod.mk.injEq] at e1 e2
  obtain ⟨rfl, rfl⟩ := e1
  obtain ⟨rfl, rfl⟩ := e2
  refine mt_congr hrt hru ?_
  rw [den_rep, hd]
  simp only [hb]
  have hfu := frm_le (k := k) h2
  by_cases hk2 : k = 2
  · subst hk2
    have := iter_five (den_ge x ts) (j := x.length) (n := 5) (hx rfl) (by omega)
    simp only [frm, upto, true_or, and_true]
    constructor
    · intro h
      obtain ⟨q, q1, q2, q3⟩ := this.1 h
      exact ⟨q, q1, by omega, q3⟩
    · rintro ⟨q, q1, q2, q3⟩
      exact ⟨q, q1, q3⟩
  · simp only [hk2, false_or]
    constructor
    · rintro ⟨q, ⟨q1, q2⟩, q3⟩; exact ⟨q, q1, by omega, q3⟩
    · rintro ⟨q, q1, q2, q3⟩; exact ⟨q, ⟨q1, by omega⟩, q3⟩
theorem ths_snoc (a : List UInt8) : ∀ k, ths a (k + 1) = ths a k ++ th a
  | 0 => by simp [ths]
  | k + 1 => by
    have h := ths_snoc a k
    rw [show ths a (k + 1 + 1) = th a ++ ths a (k + 1) from rfl, h, ← List.append_assoc, show th a ++ ths a k = ths a (k + 1) from rfl, h]
theorem ors_snoc (a : List UInt8) : ∀ (n k : Nat), ors a k (n + 1) = ors a k n ++ 124 :: ths a (k + n + 1)
  | 0, k => by simp [ors]
  | n + 1, k => by
    rw [ors, ors_snoc a n (k + 1), ors]
    simp only [List.cons_append, List.append_assoc]
    rw [show k + 1 + n + 1 = k + (n + 1) + 1 by omega]
/-- the first j alternatives -/
def rowP (a : List UInt8) (f : Nat) : Nat → List UInt8
  | 0 => []
  | j + 1 => ths a f ++ ors a f j
theorem rowP_succ (a : List UInt8) (f j : Nat) : rowP a f (j + 1) = (if j = 0 then [] else rowP a f j ++ [124]) ++ ths a (f + j) := by
  cases j with
  | zero => simp [rowP, ors]
  | succ j =>
    rw [if_neg (by omega), rowP, rowP, ors_snoc]
    simp only [List.append_assoc, List.cons_append, List.nil_append]
    rw [show f + j + 1 = f + (j + 1) by omega]
theorem ths_le {a : List UInt8} {k : Nat} (ha : a.length ≤ 25) (hk : k ≤ 6) : (ths a k).length ≤ 174 := by
  rw [ths_len]
  exact Nat.le_trans (Nat.mul_le_mul hk (show a.length + 4 ≤ 29 by omega)) (by decide)
theorem rowP_le {a : List UInt8} {f : Nat} (ha : a.length ≤ 25) : ∀ j, f + j ≤ 7 → (rowP a f j).length ≤ j * 175
  | 0, _ => by simp [rowP]
  | j + 1, h => by
    have h1 := rowP_le (f := f) ha j (by omega)
    have h2 := ths_le (k := f + j) ha (by omega)
    rw [rowP_succ, List.length_append]
    split
    · simp only [List.length_nil]; omega
    · simp only [List.length_append, List.length_cons, List.length_nil]; omega
theorem rows_eq {s : List UInt8} {lo hi k : Nat} : rows s lo hi k = rowP s (frm lo k) (upto lo hi k - frm lo k + 1) := rfl
theorem brs_len (lo hi k : Nat) : (brs lo hi k).length ≤ 5 := by
  rcases k with _ | _ | _ | k <;> simp [brs]
end Go.Rx
