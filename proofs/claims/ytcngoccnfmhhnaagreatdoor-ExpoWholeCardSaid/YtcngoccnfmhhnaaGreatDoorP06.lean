/- ExpoWhole: whatever the two bodies, the law of bodies read as their parts returns true and leaves what came in alone. Conditions: none beyond the statement's own. -/
import Derived.Test.YtcngoccnfmhhnaaGreatDoorP05
import Derived.Lib.ValidLaws
import Derived.Test.YtcngoccnfmhhnaaGreatDoorTie
import Derived.Test.YtcngoccnfmhhnaaGreatDoorCards
import Derived.Deep.DeepWitnessRowRef
import Derived.Lib.LaidIn
import Derived.Lib.LaidU8T
import Derived.PinnedBridge
set_option linter.unusedSimpArgs false
set_option linter.unusedVariables false
set_option linter.unusedSectionVars false
section
namespace Go.Ex
structure RSt (α : Type) where
  smps : List α
  fams : List Fam
section
variable {α : Type} (metB : List UInt8 → Bool) (lineR : List UInt8 → Option α) (lim : Int)
/-- one line -/
def stepR (st : RSt α) (s : List UInt8) : Except Int (RSt α) :=
  match skipB s with
  | [] => .ok st
  | c :: t => if c = 35 then match saysP metB t with
      | none => .ok st
      | some x => if saidOk x then .ok ⟨st.smps, famPut st.fams x⟩ else .error 8
    else match lineR s with
      | none => .error 8
      | some a => if lim ≤ st.smps.length then .error 11 else .ok ⟨st.smps ++ [a], st.fams⟩
/-- lines, the next one's number being k -/
def readR : Nat → RSt α → List (List UInt8) → Except (Nat × Int) (RSt α)
  | _, st, [] => .ok st
  | k, st, s :: r => match stepR metB lineR lim st s with
    | .error e => .error (k, e)
    | .ok st' => readR (k + 1) st' r
end
section
variable {α : Type} {metB : List UInt8 → Bool} {lineR : List UInt8 → Option α} {lim : Int}
theorem stepR_nil {st : RSt α} {s : List UInt8} (h : skipB s = []) : stepR metB lineR lim st s = .ok st := by
  unfold stepR; rw [h]
theorem stepR_said {st : RSt α} {s t : List UInt8} {c : UInt8} (h : skipB s = c :: t) (hc : c = 35) : stepR metB lineR lim st s = match saysP metB t with
    | none => .ok st
    | some x => if saidOk x then .ok ⟨st.smps, famPut st.fams x⟩ else .error 8 := by
  unfold stepR; rw [h]; simp only; rw [if_pos hc]
theorem stepR_smp {st : RSt α} {s t : List UInt8} {c : UInt8} (h : skipB s = c :: t) (hc : c ≠ 35) : stepR metB lineR lim st s = match lineR s with
    | none => .error 8
    | some a => if lim ≤ st.smps.length then .error 11 else .ok ⟨st.smps ++ [a], st.fams⟩ := by
  unfold stepR; rw [h]; simp only; rw [if_neg hc]
theorem readR_app : ∀ (a b : List (List UInt8)) (k : Nat) (st : RSt α), readR metB lineR lim k st (a ++ b) = match readR metB lineR lim k st a with
    | .error e => .error e
    | .ok st' => readR metB lineR lim (k + a.length) st' b
  | [], b, k, st => rfl
  | s :: a, b, k, st => by
    simp only [List.cons_append, readR]
    cases stepR metB lineR lim st s with
    | error e => rfl
    | ok st' =>
      simp only
      rw [readR_app a b (k + 1) st']
      simp only [List.length_cons]
      rw [show k + 1 + a.length = k + (a.length + 1) by omega]
theorem famPut_len (l : List Fam) (x : Said) : (famPut l x).length ≤ l.length + 1 := by
  have := (famAt_put l x []).2
  rw [this]
  unfold fam1
  split <;> simp
/-- what is read hangs on the lines, not on what is ahead of them -/
theorem stepR_two {st st' : RSt α} {s : List UInt8} (h : (st.smps.length : Int) < lim) (h' : (st'.smps.length : Int) < lim) :
    (stepR metB lineR lim st s = .error 8 ∧ stepR metB lineR lim st' s = .error 8) ∨ ∃ q q' t, stepR metB lineR lim st s = .ok q ∧ stepR metB lineR lim st' s = .ok q' ∧ q.smps = st.smps ++ t ∧ q'.smps = st'.smps ++ t ∧ t.length ≤ 1 := by
  unfold stepR
  split
  · exact .inr ⟨_, _, [], rfl, rfl, by simp, by simp, by simp⟩
  · split
    · split
      · exact .inr ⟨_, _, [], rfl, rfl, by simp, by simp, by simp⟩
      · split
        · exact .inr ⟨_, _, [], rfl, rfl, by simp, by simp, by simp⟩
        · exact .inl ⟨rfl, rfl⟩
    · split
      · exact .inl ⟨rfl, rfl⟩
      · rename_i a _
        rw [if_neg (by omega), if_neg (by omega)]
        exact .inr ⟨_, _, [a], rfl, rfl, rfl, rfl, by simp⟩
theorem readR_two : ∀ (ls : List (List UInt8)) (k k' : Nat) (st st' : RSt α), (st.smps.length : Int) + ls.length < lim → (st'.smps.length : Int) + ls.length < lim →
    ((∃ n n', readR metB lineR lim k st ls = .error (n, 8) ∧ readR metB lineR lim k' st' ls = .error (n', 8) ∧ k ≤ n ∧ k' ≤ n') ∨ ∃ q q' t, readR metB lineR lim k st ls = .ok q ∧ readR metB lineR lim k' st' ls = .ok q' ∧ q.smps = st.smps ++ t ∧ q'.smps = st'.smps ++ t ∧ t.length ≤ ls.length)
  | [], k, k', st, st', _, _ => .inr ⟨st, st', [], rfl, rfl, by simp, by simp, by simp⟩
  | s :: r, k, k', st, st', h, h' => by
    simp only [List.length_cons] at h h'
    simp only [readR]
    rcases stepR_two (metB := metB) (lineR := lineR) (s := s) (show (st.smps.length : Int) < lim by omega) (show (st'.smps.length : Int) < lim by omega) with ⟨h1, h2⟩ | ⟨q, q', t, h1, h2, h3, h4, h5⟩
    · rw [h1, h2]
      exact .inl ⟨k, k', rfl, rfl, Nat.le_refl _, Nat.le_refl _⟩
    · rw [h1, h2]
      simp only
      have e1 : q.smps.length ≤ st.smps.length + 1 := by rw [h3, List.length_append]; omega
      have e2 : q'.smps.length ≤ st'.smps.length + 1 := by rw [h4, List.length_append]; omega
      rcases readR_two r (k + 1) (k' + 1) q q' (by omega) (by omega) with ⟨n, n', g1, g2, g3, g4⟩ | ⟨p, p', u, g1, g2, g3, g4, g5⟩
      · exact .inl ⟨n, n', g1, g2, by omega, by omega⟩
      · exact .inr ⟨p, p', t ++ u, g1, g2, by rw [g3, h3, List.append_assoc], by rw [g4, h4, List.append_assoc], by rw [List.length_append, List.length_cons]; omega⟩
end
theorem linesGo_two : ∀ (a cur b : List UInt8), linesGo cur (a ++ 10 :: b) = linesGo cur (a ++ [10]) ++ linesP b
  | [], cur, b => by simp [linesGo, linesP]
  | c :: a, cur, b => by
    simp only [List.cons_append, linesGo]
    split
    · rw [linesGo_two a [] b]; rfl
    · exact linesGo_two a (cur ++ [c]) b
theorem linesP_two (a b : List UInt8) : linesP (a ++ [10] ++ b) = linesP (a ++ [10]) ++ linesP b := by
  rw [List.append_assoc]
  exact linesGo_two a [] b
theorem saysP_len {metB : List UInt8 → Bool} {s : List UInt8} {x : Said} (h : saysP metB s = some x) : x.rest.length ≤ s.length := by
  unfold saysP at h
  split at h
  · cases h
  · split at h
    · cases h
    · rename_i wd l1 h1
      have e0 := skipB_len s
      have e1 := tokP_len h1
      split at h
      · cases h
      · split at h
        · cases h
        · split at h
          · cases h
          · rename_i nm l2 h2
            have e2 := nameP_len h2
            have e3 := skipB_len l1
            have e4 := skipB_len l2
            split at h
            · cases h
            · split at h
              · cases h
                show (skipB l2).length ≤ _
                omega
              · cases h
end Go.Ex
end
section
open Go Go.Vg Go.RowKit Go.Proofs Go.Proofs.YtcngoccnfmhhnaaGreatDoor
namespace Go.Proofs.YtcngoccnfmhhnaaGreatDoor.Lab

def u8N (n b0 b1 b2 b3 : Nat) : Nat :=
  if b0 < 128 then 1
  else if b0 / 32 = 6 then (if 1 < n ∧ b1 / 64 = 2 ∧ 128 ≤ b0 % 32 * 64 + b1 % 64 then 2 else 0)
  else if b0 / 16 = 14 then (if 2 < n ∧ b1 / 64 = 2 ∧ b2 / 64 = 2 ∧ 2048 ≤ b0 % 16 * 4096 + b1 % 64 * 64 + b2 % 64 ∧ ¬ (55296 ≤ b0 % 16 * 4096 + b1 % 64 * 64 + b2 % 64 ∧ b0 % 16 * 4096 + b1 % 64 * 64 + b2 % 64 ≤ 57343) then 3 else 0)
  else if b0 / 8 = 30 then (if 3 < n ∧ b1 / 64 = 2 ∧ b2 / 64 = 2 ∧ b3 / 64 = 2 ∧ 65536 ≤ b0 % 8 * 262144 + b1 % 64 * 4096 + b2 % 64 * 64 + b3 % 64 ∧ b0 % 8 * 262144 + b1 % 64 * 4096 + b2 % 64 * 64 + b3 % 64 ≤ 1114111 then 4 else 0)
  else 0

theorem u8N_decode (n b0 b1 b2 b3 : Nat) : (u8N n b0 b1 b2 b3 = 0 ∧ Lib.decodeN n b0 b1 b2 b3 = (65533, 1)) ∨ (u8N n b0 b1 b2 b3 ≠ 0 ∧ (Lib.decodeN n b0 b1 b2 b3).2 = u8N n b0 b1 b2 b3 ∧ ¬ ((Lib.decodeN n b0 b1 b2 b3).1 = 65533 ∧ (Lib.decodeN n b0 b1 b2 b3).2 = 1)) := by
  unfold u8N Lib.decodeN
  repeat' split
  all_goals first | (exfalso; omega) | (left; exact ⟨rfl, rfl⟩) | (right; refine ⟨by omega, rfl, ?_⟩; simp only; omega)

theorem byteN (s : List UInt8) (i : Nat) : byteI s i = (((s.getD i 0).toNat : Nat) : Int) := rfl
set_option maxHeartbeats 1000000 in
theorem u8len_N (s : List UInt8) (i : Nat) (hi : i < s.length) : u8len s i = u8N (s.length - i) (s.getD i 0).toNat (s.getD (i + 1) 0).toNat (s.getD (i + 2) 0).toNat (s.getD (i + 3) 0).toNat := by
  have h0 := (s.getD i 0).toNat_lt
  have h1 := (s.getD (i + 1) 0).toNat_lt
  have h2 := (s.getD (i + 2) 0).toNat_lt
  have h3 := (s.getD (i + 3) 0).toNat_lt
  unfold u8len
  rw [byteN]
  have e1 := byteN s (i + 1)
  have e2 := byteN s (i + 2)
  have e3 := byteN s (i + 3)
  generalize (s.getD i 0).toNat = b0 at h0 ⊢
  generalize (s.getD (i + 1) 0).toNat = b1 at h1 e1 ⊢
  generalize (s.getD (i + 2) 0).toNat = b2 at h2 e2 ⊢
  generalize (s.getD (i + 3) 0).toNat = b3 at h3 e3 ⊢
  obtain ⟨n, hn⟩ : ∃ n, n = s.length - i := ⟨_, rfl⟩
  rw [← hn]
  unfold lead
  by_cases c4 : 240 ≤ b0 ∧ b0 < 248
  · rw [if_pos (by omega)]
    simp only [u8n, show (4 - 1 : Nat) = 3 from rfl, contTo, Nat.zero_add, e1, e2, e3]
    unfold u8N badRune
    rw [if_neg (by omega : ¬ b0 < 128), if_neg (by omega : ¬ b0 / 32 = 6), if_neg (by omega : ¬ b0 / 16 = 14), if_pos (by omega : b0 / 8 = 30)]
    by_cases hl : s.length < i + 4
    · rw [if_pos hl, if_neg (by omega)]
    · rw [if_neg hl]
      by_cases k1 : (b1 : Int) < 128 ∨ 192 ≤ (b1 : Int)
      · simp only [k1, if_true]; rw [if_neg (by omega)]
      · simp only [k1, if_false]
        by_cases k2 : (b2 : Int) < 128 ∨ 192 ≤ (b2 : Int)
        · simp only [k2, if_true]; rw [if_neg (by omega)]
        · simp only [k2, if_false]
          by_cases k3 : (b3 : Int) < 128 ∨ 192 ≤ (b3 : Int)
          · simp only [k3, if_true]; rw [if_neg (by omega)]
          · simp only [k3, if_false, Bool.or_eq_true, Bool.and_eq_true, decide_eq_true_eq]
            split <;> split <;> first | rfl | (exfalso; omega)
  · rw [if_neg (by omega)]
    by_cases c3 : 224 ≤ b0 ∧ b0 < 240
    · rw [if_pos (by omega)]
      simp only [u8n, show (3 - 1 : Nat) = 2 from rfl, contTo, Nat.zero_add, e1, e2]
      unfold u8N badRune
      rw [if_neg (by omega : ¬ b0 < 128), if_neg (by omega : ¬ b0 / 32 = 6), if_pos (by omega : b0 / 16 = 14)]
      by_cases hl : s.length < i + 3
      · rw [if_pos hl, if_neg (by omega)]
      · rw [if_neg hl]
        by_cases k1 : (b1 : Int) < 128 ∨ 192 ≤ (b1 : Int)
        · simp only [k1, if_true]; rw [if_neg (by omega)]
        · simp only [k1, if_false]
          by_cases k2 : (b2 : Int) < 128 ∨ 192 ≤ (b2 : Int)
          · simp only [k2, if_true]; rw [if_neg (by omega)]
          · simp only [k2, if_false, Bool.or_eq_true, Bool.and_eq_true, decide_eq_true_eq]
            split <;> split <;> first | rfl | (exfalso; omega)
    · rw [if_neg (by omega)]
      by_cases c2 : 192 ≤ b0 ∧ b0 < 224
      · rw [if_pos (by omega)]
        simp only [u8n, show (2 - 1 : Nat) = 1 from rfl, contTo, Nat.zero_add, e1]
        unfold u8N badRune
        rw [if_neg (by omega : ¬ b0 < 128), if_pos (by omega : b0 / 32 = 6)]
        by_cases hl : s.length < i + 2
        · rw [if_pos hl, if_neg (by omega)]
        · rw [if_neg hl]
          by_cases k1 : (b1 : Int) < 128 ∨ 192 ≤ (b1 : Int)
          · simp only [k1, if_true]; rw [if_neg (by omega)]
          · simp only [k1, if_false, Bool.or_eq_true, Bool.and_eq_true, decide_eq_true_eq]
            split <;> split <;> first | rfl | (exfalso; omega)
      · rw [if_neg (by omega)]
        by_cases c1 : 128 ≤ b0
        · rw [if_pos (by omega)]
          unfold u8N
          rw [if_neg (by omega : ¬ b0 < 128), if_neg (by omega : ¬ b0 / 32 = 6), if_neg (by omega : ¬ b0 / 16 = 14), if_neg (by omega : ¬ b0 / 8 = 30)]
        · rw [if_neg (by omega)]
          simp only [u8n, show (1 - 1 : Nat) = 0 from rfl, contTo]
          unfold u8N badRune
          rw [if_pos (by omega : b0 < 128), if_neg (by omega), if_neg (by simp; omega)]

theorem getD_drop (s : List UInt8) (i k : Nat) : (s.drop i).getD k 0 = s.getD (i + k) 0 := by simp [List.getD]
theorem validGo_D (s : List UInt8) : ∀ (m i : Nat), s.length - i = m → i ≤ s.length → validGo s (s.length - i) i = Lib.validD (s.drop i) := by
  intro m
  induction m using Nat.strongRecOn with
  | _ m ih =>
    intro i hm hi
    by_cases he : i = s.length
    · subst he
      rw [List.drop_length, Lib.validD_nil, validGo_end _ _ _ (Nat.le_refl _)]
    · have hlt : i < s.length := by omega
      have hne : s.drop i ≠ [] := by intro h; rw [List.drop_eq_nil_iff] at h; omega
      rw [Lib.validD_step _ hne, Lib.decodeL_N, getD_drop, getD_drop, getD_drop, getD_drop, List.length_drop, Nat.add_zero]
      have hN := u8len_N s i hlt
      rcases u8N_decode (s.length - i) (s.getD i 0).toNat (s.getD (i + 1) 0).toNat (s.getD (i + 2) 0).toNat (s.getD (i + 3) 0).toNat with ⟨h1, h2⟩ | ⟨h1, h2, h3⟩
      · rw [h1] at hN
        rw [h2, validGo_no hlt hN]; simp
      · rw [← hN] at h1 h2
        have hle := u8len_le s i hi
        rw [if_neg h3, h2, validGo_step hlt h1, ih (s.length - (i + u8len s i)) (by omega) (i + u8len s i) rfl hle, List.drop_drop]
theorem validU_D (s : List UInt8) : validU s = Lib.validD s := by
  have := validGo_D s s.length 0 (by omega) (by omega)
  simpa [validU] using this
end Go.Proofs.YtcngoccnfmhhnaaGreatDoor.Lab
end
section
open Go Go.Vg Go.RowKit Go.Proofs Go.Proofs.YtcngoccnfmhhnaaGreatDoor
namespace Go.Proofs.YtcngoccnfmhhnaaGreatDoor.Lab

theorem okB_fair (x : Lab) : okB x = fairB x := by
  unfold okB fairB rightV
  rw [validU_D]
  cases namedB false x.1 <;> cases Lib.validD x.2 <;> by_cases h : (x.2.length : Int) ≤ 1024 <;> simp [h] <;> omega

theorem putL_perm (l : List Lab) (x : Lab) : (putL l x).Perm (l ++ [x]) := by
  unfold putL
  have h := List.takeWhile_append_dropWhile (p := fun y => Op.bytesLess y.1 x.1) (l := l)
  have h1 : (x :: l.dropWhile fun y => Op.bytesLess y.1 x.1).Perm ((l.dropWhile fun y => Op.bytesLess y.1 x.1) ++ [x]) := (List.perm_append_singleton x _).symm
  refine (List.Perm.append_left _ h1).trans ?_
  rw [← List.append_assoc, h]
theorem foldN_perm (ls : List Lab) : (foldN ls).1.Perm (keptL ls) := by
  suffices h : ∀ n, ∀ ls : List Lab, ls.length = n → (foldN ls).1.Perm (keptL ls) from h _ ls rfl
  intro n
  induction n with
  | zero => intro ls h; rw [List.eq_nil_of_length_eq_zero h]; exact List.Perm.refl _
  | succ n ih =>
    intro ls h
    have hne : ls ≠ [] := by intro e; subst e; cases h
    obtain ⟨r, x, rfl⟩ : ∃ r x, ls = r ++ [x] := ⟨ls.dropLast, ls.getLast hne, (List.dropLast_concat_getLast hne).symm⟩
    have hr := ih r (by simpa using h)
    rw [foldN_snoc, keptL_snoc]
    unfold stepN
    by_cases hx : x.2 = []
    · rw [if_pos hx, if_pos hx]; exact hr
    · rw [if_neg hx, if_neg hx]
      exact (putL_perm _ x).trans (List.Perm.append_right _ hr)
theorem dw_sorted {l : List Lab} {x : Lab} (h : sortedL l) : ∀ y ∈ l.dropWhile (fun y => Op.bytesLess y.1 x.1), Op.bytesLess y.1 x.1 = false := by
  induction l with
  | nil => simp
  | cons a r ih =>
    intro y hy
    unfold sortedL at h
    rw [List.pairwise_cons] at h
    cases ha : Op.bytesLess a.1 x.1 with
    | true => simp only [List.dropWhile_cons, ha, if_true] at hy; exact ih h.2 y hy
    | false =>
      simp only [List.dropWhile_cons, ha, Bool.false_eq_true, if_false] at hy
      rcases List.mem_cons.1 hy with rfl | hy
      · exact ha
      · have h1 := h.1 y hy
        rw [Bool.eq_false_iff]
        intro h2
        rcases bl_not h1 with e | e
        · rw [e, h2] at ha; cases ha
        · have := bl_trans e h2; rw [this] at ha; cases ha
theorem tw_all {l : List Lab} {x : Lab} : ∀ y ∈ l.takeWhile (fun y => Op.bytesLess y.1 x.1), Op.bytesLess y.1 x.1 = true := by
  induction l with
  | nil => simp
  | cons a r ih =>
    intro y hy
    cases ha : Op.bytesLess a.1 x.1 with
    | true =>
      simp only [List.takeWhile_cons, ha, if_true] at hy
      rcases List.mem_cons.1 hy with rfl | hy
      · exact ha
      · exact ih y hy
    | false => simp only [List.takeWhile_cons, ha, Bool.false_eq_true, if_false] at hy; cases hy
theorem putL_sorted {l : List Lab} {x : Lab} (h : sortedL l) : sortedL (putL l x) := by
  have hd := dw_sorted (x := x) h
  have ht := tw_all (l := l) (x := x)
  unfold sortedL putL at *
  have hs := List.takeWhile_append_dropWhile (p := fun y => Op.bytesLess y.1 x.1) (l := l)
  rw [← hs, List.pairwise_append] at h
  rw [List.pairwise_append]
  refine ⟨h.1, List.pairwise_cons.2 ⟨hd, h.2.1⟩, ?_⟩
  intro a ha b hb
  rcases List.mem_cons.1 hb with rfl | hb
  · exact bl_asymm (ht a ha)
  · exact h.2.2 a ha b hb
theorem foldN_sorted (ls : List Lab) : sortedL (foldN ls).1 := by
  suffices h : ∀ (l : List Lab) (s : List Lab × Bool), sortedL s.1 → sortedL (l.foldl stepN s).1 from h ls ([], false) List.Pairwise.nil
  intro l
  induction l with
  | nil => intro s h; exact h
  | cons a r ih =>
    intro s h
    refine ih _ ?_
    unfold stepN
    split
    · exact h
    · exact putL_sorted h
theorem hasL_mem (l : List Lab) (n : List UInt8) : hasL l n = true ↔ n ∈ l.map (·.1) := by
  simp only [hasL, List.any_eq_true, decide_eq_true_eq, List.mem_map]
theorem nodup_snoc {α : Type} {l : List α} {x : α} : (l ++ [x]).Nodup ↔ l.Nodup ∧ x ∉ l := by
  rw [List.nodup_append]
  constructor
  · rintro ⟨h1, _, h3⟩
    exact ⟨h1, fun hx => h3 x hx x (by simp) rfl⟩
  · rintro ⟨h1, h2⟩
    refine ⟨h1, by simp, ?_⟩
    intro a ha b hb
    simp only [List.mem_cons, List.not_mem_nil, or_false] at hb
    subst hb
    rintro rfl; exact h2 ha
theorem foldN_twice (ls : List Lab) : (foldN ls).2 = true ↔ ¬ ((keptL ls).map (·.1)).Nodup := by
  suffices h : ∀ n, ∀ ls : List Lab, ls.length = n → ((foldN ls).2 = true ↔ ¬ ((keptL ls).map (·.1)).Nodup) from h _ ls rfl
  intro n
  induction n with
  | zero => intro ls h; rw [List.eq_nil_of_length_eq_zero h]; simp [foldN, keptL]
  | succ n ih =>
    intro ls h
    have hne : ls ≠ [] := by intro e; subst e; cases h
    obtain ⟨r, x, rfl⟩ : ∃ r x, ls = r ++ [x] := ⟨ls.dropLast, ls.getLast hne, (List.dropLast_concat_getLast hne).symm⟩
    have hr := ih r (by simpa using h)
    rw [foldN_snoc, keptL_snoc]
    unfold stepN
    by_cases hx : x.2 = []
    · rw [if_pos hx, if_pos hx]; exact hr
    · rw [if_neg hx, if_neg hx]
      simp only [Bool.or_eq_true, hr, hasL_mem, List.map_append, List.map_cons, List.map_nil]
      rw [nodup_snoc]
      have hp : x.1 ∈ (foldN r).1.map (·.1) ↔ x.1 ∈ (keptL r).map (·.1) := ((foldN_perm r).map _).mem_iff
      rw [hp]
      constructor
      · rintro (h1 | h1) ⟨h2, h3⟩
        · exact h1 h2
        · exact h3 h1
      · intro h1
        by_cases h2 : ((keptL r).map (·.1)).Nodup
        · by_cases h3 : x.1 ∈ (keptL r).map (·.1)
          · exact .inr h3
          · exact absurd ⟨h2, h3⟩ h1
        · exact .inl h2
/-- the next one is there, and another name -/
theorem dup_iff {d : List Lab} (h : sortedL d) : (∃ i, dupAt d i) ↔ ¬ (d.map (·.1)).Nodup := by
  have at_ : ∀ i (hi : i < d.length), labAt d i = d[i] := fun i hi => by simp [labAt, List.getD, hi]
  constructor
  · rintro ⟨i, h1, h2, h3⟩ hn
    rw [at_ i h2, at_ (i - 1) (by omega)] at h3
    have := List.pairwise_iff_getElem.1 hn (i - 1) i (by simp; omega) (by simpa using h2) (by omega)
    simp only [List.getElem_map] at this
    exact this h3.symm
  · intro hn
    apply Classical.byContradiction
    intro hno
    refine hn ?_
    have adj : ∀ i (hi : i + 1 < d.length), Op.bytesLess d[i].1 d[i + 1].1 = true := by
      intro i hi
      have h1 := List.pairwise_iff_getElem.1 h i (i + 1) (by omega) hi (by omega)
      rcases bl_not h1 with e | e
      · exfalso
        refine hno ⟨i + 1, by omega, hi, ?_⟩
        rw [at_ (i + 1) hi, Nat.add_sub_cancel, at_ i (by omega)]; exact e.symm
      · exact e
    have lt : ∀ k i (hi : i + (k + 1) < d.length), Op.bytesLess d[i].1 d[i + (k + 1)].1 = true := by
      intro k
      induction k with
      | zero => intro i hi; exact adj i hi
      | succ k ih =>
        intro i hi
        exact bl_trans (ih i (by omega)) (adj (i + (k + 1)) hi)
    unfold List.Nodup
    rw [List.pairwise_iff_getElem]
    intro i j hi hj hij e
    simp only [List.length_map] at hi hj
    simp only [List.getElem_map] at e
    have := lt (j - i - 1) i (by omega)
    have ej : i + (j - i - 1 + 1) = j := by omega
    simp only [ej] at this
    rw [e, bl_irrefl] at this; cases this
theorem sorted_unique : ∀ {a b : List Lab}, sortedL a → sortedL b → (a.map (·.1)).Nodup → a.Perm b → a = b
  | [], b, _, _, _, hp => by rw [List.nil_perm.1 hp]
  | x :: a, [], _, _, _, hp => by simpa using hp.length_eq
  | x :: a, y :: b, ha, hb, hn, hp => by
    unfold sortedL at ha hb
    rw [List.pairwise_cons] at ha hb
    rw [List.map_cons, List.nodup_cons] at hn
    have hx : x ∈ y :: b := hp.subset (by simp)
    have hy : y ∈ x :: a := hp.symm.subset (by simp)
    have e : x = y := by
      rcases List.mem_cons.1 hx with e | hxb
      · exact e
      · rcases List.mem_cons.1 hy with e | hya
        · exact e.symm
        · have h1 := ha.1 y hya
          have h2 := hb.1 x hxb
          have : x.1 = y.1 := by
            rcases bl_not h1 with e | e
            · exact e
            · rw [e] at h2; cases h2
          exact absurd (List.mem_map.2 ⟨y, hya, this.symm⟩) hn.1
    subst e
    rw [sorted_unique ha.2 hb.2 hn.2 (List.Perm.cons_inv hp)]
theorem newS_R {ls : List Lab} {e : Int} {out : List Lab} (h : newS ls e out) : newR ls = (e, out) := by
  unfold newS at h
  unfold newR
  have hall : ls.all okB = ls.all fairB := by congr 1; funext x; exact okB_fair x
  rw [hall] at h
  by_cases ha : ls.all fairB = true
  · rw [if_pos ha] at h ⊢
    obtain ⟨d, hp, hs, h⟩ := h
    have hd := dup_iff hs
    have hnd : (d.map (·.1)).Nodup ↔ ((keptL ls).map (·.1)).Nodup := (hp.map _).nodup_iff
    have ht := foldN_twice ls
    rcases h with ⟨h1, rfl, rfl⟩ | ⟨h1, h2⟩
    · rw [if_pos (ht.2 (by rw [← hnd]; exact hd.1 h1))]
    · have hn : (d.map (·.1)).Nodup := Classical.byContradiction fun hc => by
        obtain ⟨i, hi⟩ := hd.2 hc; exact h1 i hi
      have he : d = (foldN ls).1 := sorted_unique hs (foldN_sorted ls) hn (hp.trans (foldN_perm ls).symm)
      have htw : ¬ (foldN ls).2 = true := fun hc => (ht.1 hc) (hnd.1 hn)
      rw [if_neg htw, ← he]
      split at h2
      · rename_i h3; rw [if_pos h3, h2.1, h2.2]
      · rename_i h3; rw [if_neg h3, h2.1, h2.2]
  · rw [if_neg ha] at h ⊢
    rw [h.1, h.2]
end Go.Proofs.YtcngoccnfmhhnaaGreatDoor.Lab
end
section
open Go Go.Vg Go.RowKit Go.Proofs Go.Proofs.YtcngoccnfmhhnaaGreatDoor
namespace Go.Proofs.YtcngoccnfmhhnaaGreatDoor
open Go.Ex

/-- a line in plain words, and its set -/
def lineR (s : List UInt8) : Option (LineS × List Lab.Lab) :=
  if 0 ≤ nlI s then none else match sampleP Num.intP s with
  | none => none
  | some L => if L.labs.any (fun x => decide (x.1 = nameB)) then none else if (Lab.newR ((nameB, L.name) :: L.labs)).1 = 0 then some (L, (Lab.newR ((nameB, L.name) :: L.labs)).2) else none
theorem any_no {l : List Lab.Lab} (h : ∀ x ∈ l, x.1 ≠ nameB) : l.any (fun x => decide (x.1 = nameB)) = false := by
  rw [Bool.eq_false_iff]
  intro h2
  obtain ⟨x, hx, h3⟩ := List.any_eq_true.1 h2
  exact h x hx (of_decide_eq_true h3)
theorem lineR_ok {s : List UInt8} {L : LineS} {out : List Lab.Lab} (h0 : nlI s < 0) (h : LineIs s L out) : lineR s = some (L, out) := by
  obtain ⟨h1, h2, h3⟩ := h
  have h4 := Lab.newS_R h3
  unfold lineR
  rw [if_neg (by omega), h1]
  simp only
  rw [any_no h2, h4]
  rfl
theorem lineR_no {s : List UInt8} (h : 0 ≤ nlI s ∨ LineNo s) : lineR s = none := by
  unfold lineR
  rcases h with h | h | ⟨L, hL, h⟩
  · rw [if_pos h]
  · split
    · rfl
    · rw [h]
  · split
    · rfl
    · rw [hL]
      simp only
      rcases h with ⟨x, hx, hn⟩ | ⟨ha, e, out, he, hnew⟩
      · rw [show L.labs.any (fun x => decide (x.1 = nameB)) = true from List.any_eq_true.2 ⟨x, hx, decide_eq_true hn⟩]
        rfl
      · rw [any_no ha, Lab.newS_R hnew]
        simp [he]
/-- a sample in memory -/
structure Sm where
  L : LineS
  out : List Lab.Lab
  v : Value
def smC (x : Sm) : List Value := linC x.v x.L.val x.L.time
def smP (x : Sm) : LineS × List Lab.Lab := (x.L, x.out)
/-- samples in memory -/
structure LinS (W : World) (B : Nat) (lv : Value) (l : List Sm) : Prop where
  ow : Owns W B lv 44 4 (l.map smC)
  lo : ∀ x ∈ l, Lab.LO W B x.v x.out
  ne : ∀ x ∈ l, ∀ g, x.v.ownBlock = some g → lv.ownBlock ≠ some g
theorem LinS.same {W W' : World} {B : Nat} {lv : Value} {l : List Sm} (h : LinS W B lv l) (h1 : ∀ g, lv.ownBlock = some g → W'.heap[g]? = W.heap[g]?) (h2 : ∀ x ∈ l, ∀ g, x.v.ownBlock = some g → W'.heap[g]? = W.heap[g]?) : LinS W' B lv l :=
  ⟨h.ow.same fun g _ e => h1 g e, fun x hx => (h.lo x hx).same fun g _ e => h2 x hx g e, h.ne⟩
theorem LinS.to {W W' : World} {B : Nat} {lv : Value} {l : List Sm} (h : LinS W B lv l) (hx : Ext W W') : LinS W' B lv l :=
  h.same (fun g hg => hx.block g (h.ow.lt g hg).2) fun x hm g hg => hx.block g ((h.lo x hm).lt g hg).2
theorem LinS.kept {W W' : World} {B q : Nat} {lv : Value} {l : List Sm} (h : LinS W B lv l) (hk : Kept q W W') : LinS W' B lv l :=
  ⟨h.ow.kept hk, fun x hx => (h.lo x hx).kept hk, h.ne⟩
/-- what Read keeps while it reads -/
structure RS (W0 W : World) (c4 fb mb B : Nat) (lv fv : Value) (l : List Sm) (fams : List Fam) : Prop where
  kq : Kq (fun g => g ≠ c4 ∧ g ≠ fb ∧ g ≠ mb) W0 W
  b4 : Bx W c4 [lv]
  ls : LinS W B lv l
  fs : FamS W fb mb B fv fams
  nov : ∀ g, lv.ownBlock = some g → fv.ownBlock ≠ some g
  nof : ∀ x ∈ l, ∀ g, x.v.ownBlock = some g → fv.ownBlock ≠ some g
  hB : B ≤ W.heap.size
  h4 : c4 < B
  h4f : c4 ≠ fb
  h4m : c4 ≠ mb
  hB0 : B ≤ W0.heap.size
theorem RS.to {W0 W W' : World} {c4 fb mb B : Nat} {lv fv : Value} {l : List Sm} {fams : List Fam} (h : RS W0 W c4 fb mb B lv fv l fams) (hx : Ext W W') : RS W0 W' c4 fb mb B lv fv l fams :=
  ⟨h.kq.trans hx.kq, h.b4.to hx, h.ls.to hx, h.fs.to hx, h.nov, h.nof, Nat.le_trans h.hB hx.size, h.h4, h.h4f, h.h4m, h.hB0⟩
theorem RS.kept {W0 W W' : World} {c4 fb mb B q : Nat} {lv fv : Value} {l : List Sm} {fams : List Fam} (h : RS W0 W c4 fb mb B lv fv l fams) (hk : Kept q W W') (hq : W0.heap.size ≤ q) : RS W0 W' c4 fb mb B lv fv l fams := by
  have hk' := hk
  obtain ⟨_, hg⟩ := hk
  obtain ⟨es, hm, he⟩ := h.fs.mp
  have hB0 := h.hB0
  have hfB := h.fs.hf
  have hmB := h.fs.hm
  have bl : ∀ b, b < W0.heap.size → W'.heap[b]? = W.heap[b]? := fun b hb => hg.block b (by have := h.kq.size; omega) (by simp only [ne_eq, Option.some.injEq]; omega)
  refine ⟨⟨hg.os.trans h.kq.os, hg.tape.trans h.kq.tape, hg.output.trans h.kq.output, Nat.le_trans h.kq.size hg.size, fun g hgl hp => (bl g hgl).trans (h.kq.same g hgl hp)⟩, h.b4.kept hk', h.ls.kept hk', ⟨h.fs.bx.kept hk', h.fs.ow.kept hk', ⟨es, hm.kept (bl mb (by omega)), he⟩, hfB, hmB, h.fs.hfm⟩, h.nov, h.nof, Nat.le_trans h.hB hg.size, h.h4, h.h4f, h.h4m, h.hB0⟩
theorem Tabs.kq {w W : World} {P : Nat → Prop} (hT : Tabs w) (hk : Kq P w W) (h2 : P 2) (h3 : P 3) : Tabs W := by
  have hlt := hT.lt
  have cl : ∀ {a : Addr} {u : Value}, a.block < w.heap.size → P a.block → w.cell? a = some u → W.cell? a = some u := by
    intro a u ha hp hu
    unfold World.cell? at hu ⊢
    rw [hk.same a.block ha hp]; exact hu
  exact ⟨fun c hc => cl (by show 2 < _; omega) h2 (hT.1 c hc), fun i hi => ⟨cl (by show 3 < _; omega) h3 (hT.2 i hi).1, cl (by show 3 < _; omega) h3 (hT.2 i hi).2⟩⟩
theorem lp_off {W W' : World} {q r : Nat} {rc : Loop} {fb mb B : Nat} {fv : Value} {fams : List Fam} (h : Lp q r rc W) (hf : FamS W fb mb B fv fams) (hk : Kq (Off fb mb fv W.heap.size) W W') : Lp q r rc W' := by
  obtain ⟨es, ⟨ms, cl, hm, _⟩, _⟩ := hf.mp
  obtain ⟨t, hb⟩ := hf.bx
  have ow : ∀ g, fv.ownBlock = some g → ∃ c t f, W.heap[g]? = some (.cells c t f) := by
    intro g hg
    rcases hf.ow.1.2 with ⟨rfl, _⟩ | ⟨g', cap, cur, rfl, _, h3, _⟩
    · simp [Value.ownBlock] at hg
    · simp only [Value.ownBlock, Option.some.injEq] at hg
      subst hg
      exact ⟨_, _, _, h3⟩
  have off : ∀ (b : Nat) (o : Obj), W.heap[b]? = some o → (∀ c t f, o ≠ Obj.cells c t f) → (∀ m c, o ≠ Obj.map m c) → W'.heap[b]? = some o := by
    intro b o hbo h1 h2
    rw [hk.same b (Array.getElem?_eq_some_iff.1 hbo).1 ⟨(Array.getElem?_eq_some_iff.1 hbo).1, fun e => ?_, fun e => ?_, fun e => ?_⟩]
    · exact hbo
    · subst e; rw [hb] at hbo; cases hbo; exact h1 _ _ _ rfl
    · subst e; rw [hm] at hbo; cases hbo; exact h2 _ _ rfl
    · obtain ⟨c, t, f, hc⟩ := ow b e
      rw [hc] at hbo; cases hbo; exact h1 _ _ _ rfl
  exact ⟨off _ _ h.rcd (fun _ _ _ hh => by cases hh) (fun _ _ hh => by cases hh), off _ _ h.dfr (fun _ _ _ hh => by cases hh) (fun _ _ hh => by cases hh)⟩
theorem RS.off {W0 W W' : World} {c4 fb mb B : Nat} {lv fv : Value} {l : List Sm} {fams : List Fam} (h : RS W0 W c4 fb mb B lv fv l fams) (hk : Kq (Off fb mb fv W.heap.size) W W') (he : B = W0.heap.size) : Kq (fun g => g ≠ c4 ∧ g ≠ fb ∧ g ≠ mb) W0 W' ∧ Bx W' c4 [lv] := by
  have hs := h.kq.size
  refine ⟨⟨hk.os.trans h.kq.os, hk.tape.trans h.kq.tape, hk.output.trans h.kq.output, Nat.le_trans hs hk.size, fun g hg hp => (hk.same g (by omega) ⟨by omega, hp.2.1, hp.2.2, fun e => ?_⟩).trans (h.kq.same g hg hp)⟩, h.b4.same (hk.same c4 h.b4.lt ⟨h.b4.lt, h.h4f, h.h4m, fun e => ?_⟩)⟩
  · have := (h.fs.ow.lt g e).1; omega
  · have := (h.fs.ow.lt c4 e).1; have := h.h4; omega
theorem RS.said {W0 W W' : World} {c4 fb mb B : Nat} {lv fv fv' : Value} {l : List Sm} {fams fams' : List Fam} (h : RS W0 W c4 fb mb B lv fv l fams) (hk : Kq (Off fb mb fv W.heap.size) W W') (he : B = W0.heap.size) (hf : FamS W' fb mb B fv' fams') (ho : ∀ g, fv'.ownBlock = some g → fv.ownBlock = some g ∨ W.heap.size ≤ g) : RS W0 W' c4 fb mb B lv fv' l fams' := by
  obtain ⟨h1, h2⟩ := h.off hk he
  have hfB := h.fs.hf
  have hmB := h.fs.hm
  refine ⟨h1, h2, h.ls.same (fun g hg => ?_) (fun x hx g hg => ?_), hf, fun g hg e => ?_, fun x hx g hg e => ?_, Nat.le_trans h.hB hk.size, h.h4, h.h4f, h.h4m, h.hB0⟩
  · have := h.ls.ow.lt g hg
    exact hk.same g this.2 ⟨this.2, by omega, by omega, h.nov g hg⟩
  · have := (h.ls.lo x hx).lt g hg
    exact hk.same g this.2 ⟨this.2, by omega, by omega, h.nof x hx g hg⟩
  · have := h.ls.ow.lt g hg
    rcases ho g e with h3 | h3
    · exact h.nov g hg h3
    · omega
  · have := (h.ls.lo x hx).lt g hg
    rcases ho g e with h3 | h3
    · exact h.nof x hx g hg h3
    · omega
/-- one sample more -/
theorem RS.push {W0 W W1 W2 : World} {c4 fb mb B : Nat} {lv lv' fv : Value} {l : List Sm} {fams : List Fam} {x : Sm} (h : RS W0 W c4 fb mb B lv fv l fams) (hx : Lab.LO W B x.v x.out) (hxn : ∀ g, x.v.ownBlock = some g → lv.ownBlock ≠ some g ∧ fv.ownBlock ≠ some g) (hg : Grew B lv W W1) (ho : Owns W1 B lv' 44 4 ((l ++ [x]).map smC)) (h2 : Own2 W lv lv') (hb : Bx W2 c4 [lv']) (hw : Wr c4 W1 W2) (he : B = W0.heap.size) : RS W0 W2 c4 fb mb B lv' fv (l ++ [x]) fams := by
  have hB := h.hB
  have h4 := h.h4
  have hs := hg.size
  have hfB := h.fs.hf
  have hmB := h.fs.hm
  have hbl := hg.bl
  have keep : ∀ b, b < W.heap.size → b ≠ c4 → lv.ownBlock ≠ some b → W2.heap[b]? = W.heap[b]? := fun b h1 h2 h3 => (hw.block b h2).trans (hg.block b h1 (fun e => h3 e.symm))
  have hnl : ∀ g, lv'.ownBlock = some g → lv.ownBlock = some g ∨ W.heap.size ≤ g := by
    intro g hg
    rcases h2 with h2 | h2
    · exact .inl (by rw [← h2]; exact hg)
    · rw [h2] at hg; cases hg; exact .inr (Nat.le_refl _)
  have hlB : ∀ g, lv.ownBlock = some g → B ≤ g := fun g hg => (h.ls.ow.lt g hg).1
  refine ⟨⟨?_, ?_, ?_, ?_, fun g hgl hp => ?_⟩, hb, ⟨ho.kp hw.kp h4, fun y hy => ?_, fun y hy g hg' e => ?_⟩, ?_, fun g hg' e => ?_, fun y hy g hg' e => ?_, ?_, h4, h.h4f, h.h4m, h.hB0⟩
  · exact hw.os.trans (hbl.os.trans h.kq.os)
  · exact hw.tape.trans (hbl.tape.trans h.kq.tape)
  · exact hw.output.trans (hbl.output.trans h.kq.output)
  · have := h.kq.size; rw [hw.size]; omega
  · have := h.kq.size
    exact (keep g (by omega) hp.1 (fun e => by have := hlB g e; omega)).trans (h.kq.same g hgl hp)
  · rcases List.mem_append.1 hy with hy | hy
    · refine (h.ls.lo y hy).same fun g hgl e => keep g hgl (fun e2 => ?_) (h.ls.ne y hy g e)
      have := ((h.ls.lo y hy).lt g e).1; omega
    · obtain rfl := List.mem_singleton.1 hy
      refine hx.same fun g hgl e => keep g hgl (fun e2 => ?_) (hxn g e).1
      have := (hx.lt g e).1; omega
  · rcases List.mem_append.1 hy with hy | hy
    · have := ((h.ls.lo y hy).lt g hg').2
      rcases hnl g e with h3 | h3
      · exact h.ls.ne y hy g hg' h3
      · omega
    · obtain rfl := List.mem_singleton.1 hy
      have := (hx.lt g hg').2
      rcases hnl g e with h3 | h3
      · exact (hxn g hg').1 h3
      · omega
  · obtain ⟨es, hm, hM⟩ := h.fs.mp
    exact h.fs.same (keep fb h.fs.bx.lt (Ne.symm h.h4f) (fun e => by have := hlB fb e; omega)) (keep mb hm.lt (Ne.symm h.h4m) (fun e => by have := hlB mb e; omega)) (fun g hg' => keep g (h.fs.ow.lt g hg').2 (fun e => by have := (h.fs.ow.lt g hg').1; omega) (fun e => h.nov g e hg'))
  · rcases hnl g hg' with h3 | h3
    · exact h.nov g h3 e
    · have := (h.fs.ow.lt g e).2; omega
  · rcases List.mem_append.1 hy with hy | hy
    · exact h.nof y hy g hg' e
    · obtain rfl := List.mem_singleton.1 hy
      exact (hxn g hg').2 e
  · rw [hw.size]; omega
theorem ext_kq {w W : World} (h : Kq (fun g => g < w.heap.size) w W) : Ext w W := ⟨h.os, h.tape, h.output, h.size, fun g hg => h.same g hg hg⟩
theorem owns_out {W : World} {r B et k : Nat} {v : Value} {xs : List (List Value)} (h : Owns W B v et k xs) (hD : Df r W) : Owns (outW r W) B v et k xs :=
  h.same fun g hg e => (outW_wr r W).block g fun e2 => Df.neO hD h (by rw [e, e2])
theorem lins_out {W : World} {r B : Nat} {lv : Value} {l : List Sm} (h : LinS W B lv l) (hD : Df r W) : LinS (outW r W) B lv l :=
  ⟨owns_out h.ow hD, fun x hx => owns_out (h.lo x hx) hD, h.ne⟩
end Go.Proofs.YtcngoccnfmhhnaaGreatDoor
end
section
open Go Go.Vg Go.RowKit Go.Proofs Go.Proofs.YtcngoccnfmhhnaaGreatDoor
namespace Go.Proofs.YtcngoccnfmhhnaaGreatDoor
open Go.Ex

abbrev St := RSt (LineS × List Lab.Lab)
abbrev rdR (lim : Int) := readR (α := LineS × List Lab.Lab) metB lineR lim
theorem lnC2 : ∀ (ls : List (List UInt8)) (k : Nat), ∀ x ∈ lnC k ls, x.length = 2
  | [], _, x, h => by simp [lnC] at h
  | l :: r, k, x, h => by
    simp only [lnC, List.mem_cons] at h
    rcases h with rfl | h
    · rfl
    · exact lnC2 r (k + 1) x h
/-- what Read gives -/
def ReadS (lim : Int) (s : List UInt8) (w : World) (r : Value) (w' : World) : Prop :=
  Ext w w' ∧ ((∃ lv fv l fams, rdR lim 1 ⟨[], []⟩ (linesP s) = .ok ⟨l.map smP, fams⟩ ∧ r = .tuple ⟨[lv, fv, .int .i64 0, .int .i64 0]⟩ ∧ LinS w' w.heap.size lv l ∧ Owns w' w.heap.size fv 74 3 (fams.map famC)) ∨
    (∃ (n : Nat) (e : Int), rdR lim 1 ⟨[], []⟩ (linesP s) = .error (n, e) ∧ r = .tuple ⟨[.slice none 0 0, .slice none 0 0, .int .i64 n, .int .i64 e]⟩))
set_option maxHeartbeats 4000000 in
theorem bodyR_ok (w : World) (v : Value) (s : List UInt8) (lim : Int) (hv : By w v s) (hs : s.length ≤ 100000000) (hl : ∀ x ∈ linesP s, x.length ≤ 3996) (hT : Tabs w) : Ret Tryz.prog 13 ⟨[v, .int .i64 lim]⟩ w (ReadS lim s w) := by
  refine ret_of_GM Tryz.func13 rfl Tryz.ntmps13 rfl ?_
  simp only [argEnv]
  refine rn ?_
  refine sBox (fun W1 hb1 hs1 hx1 => ?_)
  refine rn ?_
  refine sAl tb (fun W2 hb2 hs2 hx2 => ?_)
  refine rn ?_
  refine sAl tb (fun W3 hb3 hs3 hx3 => ?_)
  refine rn ?_
  refine sAl tb (fun W4 hb4 hs4 hx4 => ?_)
  refine rn ?_
  refine sAl tb (fun W5 hb5 hs5 hx5 => ?_)
  refine rn ?_
  refine sMkV (fun W6 hm6 hs6 hx6 => ?_)
  refine rn ?_
  refine sBox (fun W7 hb7 hs7 hx7 => ?_)
  refine rn ?_
  refine sAl tb (fun W8 hb8 hs8 hx8 => ?_)
  refine sSt tb (fun W9 hb9 hw9 => ?_) (h1 := by simp [Value.oneCell', ptr])
  have hx08 : Ext w W8 := (((((((hx1.trans hx2).trans hx3).trans hx4).trans hx5).trans hx6).trans hx7).trans hx8)
  have hx9 : Ext w W9 := hx08.wr hw9 (by omega)
  have hz : W9.heap.size = w.heap.size + 8 := by rw [hw9.size]; omega
  have hv9 := hv.to hx9
  have b1 : Bx W9 w.heap.size [.int .i64 lim] := (((((((hb1.to hx2).to hx3).to hx4).to hx5).to hx6).to hx7).to hx8).wr hw9 (by omega)
  have b2 : Bx W9 W1.heap.size [.slice none 0 0] := ((((((hb2.to hx3).to hx4).to hx5).to hx6).to hx7).to hx8).wr hw9 (by omega)
  have b3 : Bx W9 W2.heap.size [.slice none 0 0] := (((((hb3.to hx4).to hx5).to hx6).to hx7).to hx8).wr hw9 (by omega)
  have b4 : Bx W9 W3.heap.size [.int .i64 0] := ((((hb4.to hx5).to hx6).to hx7).to hx8).wr hw9 (by omega)
  have b5 : Bx W9 W4.heap.size [.int .i64 0] := (((hb5.to hx6).to hx7).to hx8).wr hw9 (by omega)
  have b6 : Mv W9 W5.heap.size [] := ((hm6.to hx7).to hx8).kp hw9.kp (by omega)
  have b7 : Bx W9 W6.heap.size [.slice none 0 0, .map (some W5.heap.size)] := (hb7.to hx8).wr hw9 (by omega)
  have b8 : Bx W9 W7.heap.size [ptr W6.heap.size] := hb9
  clear hb1 hb2 hb3 hb4 hb5 hm6 hb7 hb8 hb9 hw9 hx08
  refine rn ?_
  refine sCall c9 (lines_ok v s W9 hv9 (by omega)) ?_
  rintro _ W0 ⟨b, v0, rfl, hb, hbx, hv0, hx0⟩
  have b1 := b1.to hx0
  have b2 := b2.to hx0
  have b3 := b3.to hx0
  have b4 := b4.to hx0
  have b5 := b5.to hx0
  have b6 := b6.to hx0
  have b7 := b7.to hx0
  have b8 := b8.to hx0
  have hx00 := hx9.trans hx0
  have hz0 := hx0.size
  have hT0 := hT.to hx00
  have hTl := hT.lt
  have hll := linesP_len s
  have hRS0 : RS W0 W0 W1.heap.size W6.heap.size W5.heap.size W0.heap.size (.slice none 0 0) (.slice none 0 0) [] [] :=
    ⟨Kq.refl _ _, b2, ⟨Owns.nil _ _ _ _, by simp, by simp⟩, ⟨b7, Owns.nil _ _ _ _, ⟨[], b6, fun m => by simp [vget]⟩, by omega, by omega, by omega⟩, by simp [Value.ownBlock], by simp, Nat.le_refl _, by omega, by omega, by omega, Nat.le_refl _⟩
  refine rn ?_
  refine G.rangeFunc rfl rfl c22 (lines1_ok v0 s b (by omega)) rfl rfl (lnC2 _ _)
    (fun i W => ∃ lv fv l fams, RS W0 W W1.heap.size W6.heap.size W5.heap.size W0.heap.size lv fv l fams ∧ fams.length ≤ i ∧ l.length ≤ i ∧ i ≤ (linesP s).length ∧ rdR lim 1 ⟨[], []⟩ (linesP s) = rdR lim (i + 1) ⟨l.map smP, fams⟩ ((linesP s).drop i))
    (fun c W => c = .ret ∧ ∃ (n : Nat) (e : Int), Kq (fun g => g < w.heap.size) w W ∧ Bx W W1.heap.size [.slice none 0 0] ∧ Bx W W2.heap.size [.slice none 0 0] ∧ Bx W W3.heap.size [.int .i64 n] ∧ Bx W W4.heap.size [.int .i64 e] ∧ rdR lim 1 ⟨[], []⟩ (linesP s) = .error (n, e)) ?_ ?_ ?_ ?_ ?_ ?_ ?_
  · rintro q hq i W W' ⟨lv, fv, l, fams, h1, h2⟩ hk
    exact ⟨lv, fv, l, fams, h1.kept hk hq, h2⟩
  · rintro q hq c W W' ⟨h1, n, e, h2, h3, h4, h5, h6, h7⟩ hk
    refine ⟨h1, n, e, ?_, h3.kept hk, h4.kept hk, h5.kept hk, h6.kept hk, h7⟩
    exact h2.trans ⟨hk.2.os, hk.2.tape, hk.2.output, hk.2.size, fun g hg hp => hk.2.block g hg (by simp only [ne_eq, Option.some.injEq]; omega)⟩
  · rintro i W ⟨lv, fv, l, fams, h1, h2⟩
    refine ⟨(hbx.same (h1.kq.same b hbx.lt ⟨by omega, by omega, by omega⟩)).cells.one, (hv0.same fun g hg e => ?_).sli⟩
    have := (hv0.lt g e).1
    exact h1.kq.same g hg ⟨by omega, by omega, by omega⟩
  · exact fun w' h => ⟨_, _, [], [], hRS0.to h, by simp, by simp, by simp, rfl⟩
  · rintro q r rc i x W hq hqr hxi ⟨lv, fv, l, fams, hR, hfi, hli, hil, he⟩ hLp
    have hio : i < (linesP s).length := by have := (List.getElem?_eq_some_iff.1 hxi).1; rw [lnC_len] at this; exact this
    obtain ⟨y, hy⟩ : ∃ y, (linesP s)[i]? = some y := ⟨_, List.getElem?_eq_getElem hio⟩
    rw [lnC_get (linesP s) 1 i y hy, Option.some.injEq] at hxi
    subst hxi
    have hyl : y.length ≤ 3996 := hl y (List.mem_of_getElem? hy)
    have hdr : (linesP s).drop i = y :: (linesP s).drop (i + 1) := by
      obtain ⟨h1, rfl⟩ := List.getElem?_eq_some_iff.1 hy
      exact List.drop_eq_getElem_cons h1
    have hll1 := hll.1
    unfold rdR at he
    rw [hdr, readR] at he
    refine rn ?_
    refine G.beg rfl rfl rfl hLp hqr ?_
    intro W' hkk hLp' hsz
    have hR := hR.kept hkk hq
    clear hLp hkk hsz
    refine rn ?_
    refine sCall c26 (trimBL_ok y W') ?_
    rintro _ W2' ⟨rfl, hx2'⟩
    have hR := hR.to hx2'
    have hLp := hLp'.to hx2'
    clear hLp' hx2'
    have hsl := skipB_len y
    cases hsk : skipB y with
    | nil =>
      rw [stepR_nil hsk] at he
      simp only at he
      refine rn ?_
      exact G.nil fun t _ => ⟨hLp, lv, fv, l, fams, hR, by omega, by omega, by omega, he⟩
    | cons c t =>
      rw [hsk] at hsl
      simp only [List.length_cons] at hsl
      refine rn ?_
      refine sBs tb 0 ?_ (hj := fun _ => ⟨rfl, by simp⟩)
      refine rn ?_
      refine G.condD rfl (fun hc => ?_) (fun hc => ?_)
      · have hc35 : c = 35 := by rw [← UInt8.toNat_inj]; show c.toNat = 35; exact Int.ofNat.inj hc
        rw [stepR_said hsk hc35] at he
        have hTW : Tabs W2' := hT0.kq hR.kq ⟨by omega, by omega, by omega⟩ ⟨by omega, by omega, by omega⟩
        have hrem := remark_ok W2' t (by omega) hTW
        refine rn ?_
        refine GL.cons (Step.sliceSl tb 1 rfl (Op1.of rfl (by first | exact fun _ => rfl | exact fun h => h | exact fun h => bL h | exact fun h => bL (bL h) | exact fun h => bL (bL (bL h)))) (Op1.of rfl (by first | exact fun _ => rfl | exact fun h => h | exact fun h => bL h | exact fun h => bL (bL h) | exact fun h => bL (bL (bL h)))) rfl (fun _ => ⟨rfl, by simp⟩) rfl ?_)
        refine sCall c27 (hrem) ?_
        rintro _ W3' ⟨hx3', ⟨x, hsx, rfl⟩ | ⟨hsx, a1, a2, a3, rfl⟩⟩
        · have hR := hR.to hx3'
          have hLp := hLp.to hx3'
          have hTW := hTW.to hx3'
          have hxr := saysP_len hsx
          rw [hsx] at he
          simp only at he
          refine rn ?_
          refine sAl tb (fun Wa hba hsa hxa => ?_)
          refine sSt tb (fun Wb hbb hwb => ?_) (vs := saidC x) (hv := rfl) (h1 := said_one)
          have hxb : Ext W3' Wb := Below.wr hxa hwb (Nat.le_refl _)
          have hR := hR.to hxb
          have hLp := hLp.to hxb
          have hTW := hTW.to hxb
          have h8 : Bx Wb W7.heap.size [ptr W6.heap.size] := b8.same (hR.kq.same _ b8.lt ⟨by omega, by omega, by omega⟩)
          unfold saidC at hbb
          clear hba hxa hwb hsa
          refine rn ?_
          refine GL.cons (Step.on rfl rfl (Step.callO rfl rfl (by repeat (first | exact OpL.nil | refine OpL.cons (Op1.of rfl (by first | exact fun _ => rfl | exact fun h => h | exact fun h => bL h | exact fun h => bL (bL h) | exact fun h => bL (bL (bL h)))) ?_)) c28 rfl (takes_ok Wb W6.heap.size W5.heap.size W0.heap.size fv fams x hR.fs hR.hB (by omega) (by omega) hTW (by omega) (by omega)) ?_))
          rintro _ Wc ⟨rfl, hkc, hfc⟩
          have hLp := lp_off hLp hR.fs hkc
          cases hok : saidOk x
          · rw [hok] at he
            simp only [Bool.false_eq_true, if_false] at he
            obtain ⟨hkq, hb4⟩ := hR.off hkc rfl
            have c3 : Bx Wc W2.heap.size [.slice none 0 0] := b3.same (hkq.same _ b3.lt ⟨by omega, by omega, by omega⟩)
            have c4 : Bx Wc W3.heap.size [.int .i64 0] := b4.same (hkq.same _ b4.lt ⟨by omega, by omega, by omega⟩)
            have c5 : Bx Wc W4.heap.size [.int .i64 0] := b5.same (hkq.same _ b5.lt ⟨by omega, by omega, by omega⟩)
            have hkw : Kq (fun g => g < w.heap.size) w Wc := hx00.kq.trans (hkq.mono fun g _ hp => ⟨by omega, by omega, by omega⟩)
            refine rn ?_
            refine sSt tb (fun Wd hbd hwd => ?_) (hb := hb4)
            have hLp := hLp.wr hb4 hwd
            have c3 := c3.wr hwd (by omega)
            have c4 := c4.wr hwd (by omega)
            have c5 := c5.wr hwd (by omega)
            refine sSt tb (fun We hbe hwe => ?_) (hb := c3)
            have hLp := hLp.wr c3 hwe
            have hbd := hbd.wr hwe (by omega)
            have c4 := c4.wr hwe (by omega)
            have c5 := c5.wr hwe (by omega)
            refine sSt tb (fun Wf hbf hwf => ?_) (hb := c4)
            have hLp := hLp.wr c4 hwf
            have hbd := hbd.wr hwf (by omega)
            have hbe := hbe.wr hwf (by omega)
            have c5 := c5.wr hwf (by omega)
            refine sSt tb (fun Wg hbg hwg => ?_) (hb := c5)
            have hLp := hLp.wr c5 hwg
            have hbd := hbd.wr hwg (by omega)
            have hbe := hbe.wr hwg (by omega)
            have hbf := hbf.wr hwg (by omega)
            have hkw := (((hkw.trans (hwd.kq (by omega))).trans (hwe.kq (by omega))).trans (hwf.kq (by omega))).trans (hwg.kq (by omega))
            refine rn ?_
            refine G.ret fun t _ => ⟨hLp, rfl, 1 + i, 8, hkw, hbd, hbe, hbf, hbg, ?_⟩
            rw [show 1 + i = i + 1 by omega]
            exact he
          · rw [hok] at he
            simp only [if_true] at he
            obtain ⟨fv', hfs', hfo'⟩ := hfc hok
            have hR := hR.said hkc rfl hfs' hfo'
            have hfl := famPut_len fams x
            refine rn ?_
            exact G.nil fun t _ => ⟨hLp, lv, fv', l, famPut fams x, hR, by omega, by omega, by omega, he⟩
        · have hR := hR.to hx3'
          have hLp := hLp.to hx3'
          rw [hsx] at he
          simp only at he
          refine rn ?_
          refine sAl tb (fun Wa hba hsa hxa => ?_)
          refine sSt tb (fun Wb hbb hwb => ?_) (vs := [S a1, S a2, S a3]) (hv := rfl) (h1 := said_one)
          have hxb : Ext W3' Wb := Below.wr hxa hwb (Nat.le_refl _)
          have hR := hR.to hxb
          have hLp := hLp.to hxb
          have h8 : Bx Wb W7.heap.size [ptr W6.heap.size] := b8.same (hR.kq.same _ b8.lt ⟨by omega, by omega, by omega⟩)
          clear hba hxa hwb hsa
          refine rn ?_
          refine GL.cons (Step.off (v := .bool false) rfl (of_decide_eq_true rfl) rfl ?_)
          refine rn ?_
          exact G.nil fun t _ => ⟨hLp, lv, fv, l, fams, hR, by omega, by omega, by omega, he⟩
      · have hc35 : c ≠ 35 := fun h => hc (by rw [h]; rfl)
        rw [stepR_smp hsk hc35] at he
        have hTW : Tabs W2' := hT0.kq hR.kq ⟨by omega, by omega, by omega⟩ ⟨by omega, by omega, by omega⟩
        have hn9 : ∀ t L, t <+: y → sampleP Num.intP t = some L → L.labs.length ≤ 999 := by
          intro t L ht hL
          have h1 := (sampleP_len hL).1
          have h2 := ht.length_le
          omega
        refine rn ?_
        refine sCall c24 (readLine_ok W2' y (by omega) hTW hn9) ?_
        rintro _ W3' ⟨hx3', ⟨L, u, out, ⟨hnl, hLI⟩, rfl, hou⟩ | ⟨hno, a1, e1, he1, rfl⟩⟩
        · rw [lineR_ok hnl hLI] at he
          simp only [List.length_map] at he
          have hoW : ∀ g, u.ownBlock = some g → lv.ownBlock ≠ some g ∧ fv.ownBlock ≠ some g := fun g hg => by
            have h1 := (hou.lt g hg).1
            exact ⟨fun e => by have := (hR.ls.ow.lt g e).2; omega, fun e => by have := (hR.fs.ow.lt g e).2; omega⟩
          have hBW := hR.hB
          have hR := hR.to hx3'
          have hLp := hLp.to hx3'
          have hone : u.oneCell' = true := hou.sli.one u (List.mem_singleton.2 rfl)
          refine rn ?_
          refine sAl tb (fun Wa hba hsa hxa => ?_)
          refine sSt tb (fun Wb hbb hwb => ?_) (vs := linC u L.val L.time) (hv := rfl) (h1 := linC_one hone)
          have hxb : Ext W3' Wb := Below.wr hxa hwb (Nat.le_refl _)
          have hR := hR.to hxb
          have hLp := hLp.to hxb
          have hou : Lab.LO Wb W0.heap.size u out := (hou.to hxb).mono hBW
          have h1 : Bx Wb w.heap.size [.int .i64 lim] := b1.same (hR.kq.same _ b1.lt ⟨by omega, by omega, by omega⟩)
          clear hba hxa hwb hsa
          have hb4' := hR.b4
          have hlo := hR.ls.ow
          have hll4 : (l.map smC).length = l.length := by simp
          have hlvs := hlo.sli
          unfold linC at hbb
          refine rn ?_
          refine G.condD rfl (fun hc => ?_) (fun hc => ?_)
          · rw [if_pos (by omega)] at he
            simp only at he
            have hkq := hR.kq
            have hb4 := hR.b4
            have c3 : Bx Wb W2.heap.size [.slice none 0 0] := b3.same (hkq.same _ b3.lt ⟨by omega, by omega, by omega⟩)
            have c4 : Bx Wb W3.heap.size [.int .i64 0] := b4.same (hkq.same _ b4.lt ⟨by omega, by omega, by omega⟩)
            have c5 : Bx Wb W4.heap.size [.int .i64 0] := b5.same (hkq.same _ b5.lt ⟨by omega, by omega, by omega⟩)
            have hkw : Kq (fun g => g < w.heap.size) w Wb := hx00.kq.trans (hkq.mono fun g _ hp => ⟨by omega, by omega, by omega⟩)
            refine rn ?_
            refine sSt tb (fun Wd hbd hwd => ?_) (hb := hb4)
            have hLp := hLp.wr hb4 hwd
            have c3 := c3.wr hwd (by omega)
            have c4 := c4.wr hwd (by omega)
            have c5 := c5.wr hwd (by omega)
            refine sSt tb (fun We hbe hwe => ?_) (hb := c3)
            have hLp := hLp.wr c3 hwe
            have hbd := hbd.wr hwe (by omega)
            have c4 := c4.wr hwe (by omega)
            have c5 := c5.wr hwe (by omega)
            refine sSt tb (fun Wf hbf hwf => ?_) (hb := c4)
            have hLp := hLp.wr c4 hwf
            have hbd := hbd.wr hwf (by omega)
            have hbe := hbe.wr hwf (by omega)
            have c5 := c5.wr hwf (by omega)
            refine sSt tb (fun Wg hbg hwg => ?_) (hb := c5)
            have hLp := hLp.wr c5 hwg
            have hbd := hbd.wr hwg (by omega)
            have hbe := hbe.wr hwg (by omega)
            have hbf := hbf.wr hwg (by omega)
            have hkw := (((hkw.trans (hwd.kq (by omega))).trans (hwe.kq (by omega))).trans (hwf.kq (by omega))).trans (hwg.kq (by omega))
            refine rn ?_
            refine G.ret fun t _ => ⟨hLp, rfl, 1 + i, 11, hkw, hbd, hbe, hbf, hbg, ?_⟩
            rw [show 1 + i = i + 1 by omega]
            exact he
          · rw [if_neg (by omega)] at he
            simp only at he
            refine rn ?_
            refine sBs' tb [linC u L.val L.time] (fun us W5' ho5 hs5 hx5' => ?_) (hkl := by simp [linC]) (hfill := by kernel_rfl)
            have hR := hR.to hx5'
            have hLp := hLp.to hx5'
            refine sApp2 tb hR.ls.ow ho5.sli (fun lv' W6' hlv' hg6 ho2 => ?_) (h1 := by
              intro z hz c hc
              obtain rfl := List.mem_singleton.1 hz
              exact linC_one hone c hc) (hB := hR.hB)
            have hLp := hR.ls.ow.lp hLp hg6
            have hb46 := hR.b4.grew hg6 (hR.ls.ow.ne hR.h4)
            refine sSt tb (fun W7' hb7' hw7' => ?_) (vs := [lv']) (hv := hlv'.cells) (h1 := hlv'.sli.one) (hb := hb46)
            have hLp := hLp.wr hb46 hw7'
            have hR := hR.push (x := ⟨L, out, u⟩) (hou.to hx5') hoW hg6 (by rw [List.map_append]; exact hlv') ho2 hb7' hw7' rfl
            refine rn ?_
            exact G.nil fun t _ => ⟨hLp, lv', fv, l ++ [⟨L, out, u⟩], fams, hR, by omega, by simp only [List.length_append, List.length_cons, List.length_nil]; omega, by omega, by rw [List.map_append]; exact he⟩
        · rw [lineR_no hno] at he
          simp only at he
          have hR := hR.to hx3'
          have hLp := hLp.to hx3'
          refine rn ?_
          refine sAl tb (fun Wa hba hsa hxa => ?_)
          refine sSt tb (fun Wb hbb hwb => ?_) (vs := linZ) (hv := rfl) (h1 := linZ_one)
          have hxb : Ext W3' Wb := Below.wr hxa hwb (Nat.le_refl _)
          have hR := hR.to hxb
          have hLp := hLp.to hxb
          clear hba hxa hwb hsa
          refine rn ?_
          refine G.cond rfl (fun hc => ?_) (fun hc => ?_)
          · skip
            have hkq := hR.kq
            have hb4 := hR.b4
            have c3 : Bx Wb W2.heap.size [.slice none 0 0] := b3.same (hkq.same _ b3.lt ⟨by omega, by omega, by omega⟩)
            have c4 : Bx Wb W3.heap.size [.int .i64 0] := b4.same (hkq.same _ b4.lt ⟨by omega, by omega, by omega⟩)
            have c5 : Bx Wb W4.heap.size [.int .i64 0] := b5.same (hkq.same _ b5.lt ⟨by omega, by omega, by omega⟩)
            have hkw : Kq (fun g => g < w.heap.size) w Wb := hx00.kq.trans (hkq.mono fun g _ hp => ⟨by omega, by omega, by omega⟩)
            refine rn ?_
            refine sSt tb (fun Wd hbd hwd => ?_) (hb := hb4)
            have hLp := hLp.wr hb4 hwd
            have c3 := c3.wr hwd (by omega)
            have c4 := c4.wr hwd (by omega)
            have c5 := c5.wr hwd (by omega)
            refine sSt tb (fun We hbe hwe => ?_) (hb := c3)
            have hLp := hLp.wr c3 hwe
            have hbd := hbd.wr hwe (by omega)
            have c4 := c4.wr hwe (by omega)
            have c5 := c5.wr hwe (by omega)
            refine sSt tb (fun Wf hbf hwf => ?_) (hb := c4)
            have hLp := hLp.wr c4 hwf
            have hbd := hbd.wr hwf (by omega)
            have hbe := hbe.wr hwf (by omega)
            have c5 := c5.wr hwf (by omega)
            refine sSt tb (fun Wg hbg hwg => ?_) (hb := c5)
            have hLp := hLp.wr c5 hwg
            have hbd := hbd.wr hwg (by omega)
            have hbe := hbe.wr hwg (by omega)
            have hbf := hbf.wr hwg (by omega)
            have hkw := (((hkw.trans (hwd.kq (by omega))).trans (hwe.kq (by omega))).trans (hwf.kq (by omega))).trans (hwg.kq (by omega))
            refine rn ?_
            refine G.ret fun t _ => ⟨hLp, rfl, 1 + i, 8, hkw, hbd, hbe, hbf, hbg, ?_⟩
            rw [show 1 + i = i + 1 by omega]
            exact he
          · exfalso
            apply he1
            simpa using hc
  · rintro r W hr ⟨lv, fv, l, fams, hR, -, -, -, he⟩ hD
    rw [lnC_len, List.drop_length] at he
    have he : rdR lim 1 ⟨[], []⟩ (linesP s) = .ok ⟨l.map smP, fams⟩ := he
    have hR := hR.to (Ext.drew W)
    have hD := hD.to (Ext.drew W)
    have hkq := hR.kq
    have d4 := hR.b4
    have d8 : Bx W.drew W7.heap.size [ptr W6.heap.size] := b8.same (hkq.same _ b8.lt ⟨by omega, by omega, by omega⟩)
    have df := hR.fs.bx
    have c3 : Bx W.drew W2.heap.size [.slice none 0 0] := b3.same (hkq.same _ b3.lt ⟨by omega, by omega, by omega⟩)
    have c4 : Bx W.drew W3.heap.size [.int .i64 0] := b4.same (hkq.same _ b4.lt ⟨by omega, by omega, by omega⟩)
    have c5 : Bx W.drew W4.heap.size [.int .i64 0] := b5.same (hkq.same _ b5.lt ⟨by omega, by omega, by omega⟩)
    have hkw : Kq (fun g => g < w.heap.size) w W.drew := hx00.kq.trans (hkq.mono fun g _ hp => ⟨by omega, by omega, by omega⟩)
    have hlo := hR.ls
    have hfo := hR.fs.ow
    have hlcl := hlo.ow.cells
    have hfcl := hfo.cells
    have hl1 : lv.oneCell' = true := hlo.ow.sli.one lv (List.mem_singleton.2 rfl)
    have hf1 : fv.oneCell' = true := hfo.sli.one fv (List.mem_singleton.2 rfl)
    refine rn ?_
    refine G.regionM [(0, true), (1, true), (2, true), (3, true), (4, true), (5, false), (6, false), (7, false), (8, false)] (fun w' => Bx w' W1.heap.size [lv] ∧ Bx w' W7.heap.size [ptr W6.heap.size] ∧ Bx w' W6.heap.size [fv, .map (some W5.heap.size)]) (by kernel_rfl) (by kernel_rfl) rfl mixed (⟨d4, d8, df⟩) rfl ?_
    refine dLd tb (u := lv) ?_ (hc := fun w' hS _ => Bx.c0 hS.1 rfl)
    refine rd ?_
    refine dLd tb (u := ptr W6.heap.size) ?_ (hc := fun w' hS _ => Bx.c0 hS.2.1 rfl)
    refine rd ?_
    refine dLd tb (u := fv) ?_ (hc := fun w' hS _ => Bx.c0 hS.2.2 rfl)
    refine rd ?_
    refine GM.eff (Step.store0 (vs := [lv]) tb rfl (Op1.of rfl (by first | exact fun _ => rfl | exact fun h => h | exact fun h => bL h | exact fun h => bL (bL h) | exact fun h => bL (bL (bL h)))) (Op1.of rfl (by first | exact fun _ => rfl | exact fun h => h | exact fun h => bL h | exact fun h => bL (bL h) | exact fun h => bL (bL (bL h)))) rfl hlcl rfl (by intro z hz; obtain rfl := List.mem_singleton.1 hz; exact hl1) d4 rfl ?_)
    intro Wa hba hwa
    have hD := hD.wr d4 hwa
    have d8 := d8.wr hwa (by omega)
    have df := df.wr hwa (by omega)
    have c3 := c3.wr hwa (by omega)
    have c4 := c4.wr hwa (by omega)
    have c5 := c5.wr hwa (by omega)
    refine ⟨⟨hba, d8, df⟩, ?_⟩
    refine GM.eff (Step.store0 (vs := [fv]) tb rfl (Op1.of rfl (by first | exact fun _ => rfl | exact fun h => h | exact fun h => bL h | exact fun h => bL (bL h) | exact fun h => bL (bL (bL h)))) (Op1.of rfl (by first | exact fun _ => rfl | exact fun h => h | exact fun h => bL h | exact fun h => bL (bL h) | exact fun h => bL (bL (bL h)))) rfl hfcl rfl (by intro z hz; obtain rfl := List.mem_singleton.1 hz; exact hf1) c3 rfl ?_)
    intro Wb hbb hwb
    have hD := hD.wr c3 hwb
    have hba := hba.wr hwb (by omega)
    have d8 := d8.wr hwb (by omega)
    have df := df.wr hwb (by omega)
    have c4 := c4.wr hwb (by omega)
    have c5 := c5.wr hwb (by omega)
    refine ⟨⟨hba, d8, df⟩, ?_⟩
    refine GM.eff (Step.store0 tb rfl (Op1.of rfl (by first | exact fun _ => rfl | exact fun h => h | exact fun h => bL h | exact fun h => bL (bL h) | exact fun h => bL (bL (bL h)))) (Op1.of rfl (by first | exact fun _ => rfl | exact fun h => h | exact fun h => bL h | exact fun h => bL (bL h) | exact fun h => bL (bL (bL h)))) rfl rfl rfl (by simp [Value.oneCell']) c4 rfl ?_)
    intro Wc hbc hwc
    have hD := hD.wr c4 hwc
    have hba := hba.wr hwc (by omega)
    have hbb := hbb.wr hwc (by omega)
    have d8 := d8.wr hwc (by omega)
    have df := df.wr hwc (by omega)
    have c5 := c5.wr hwc (by omega)
    refine ⟨⟨hba, d8, df⟩, ?_⟩
    refine GM.eff (Step.store0 tb rfl (Op1.of rfl (by first | exact fun _ => rfl | exact fun h => h | exact fun h => bL h | exact fun h => bL (bL h) | exact fun h => bL (bL (bL h)))) (Op1.of rfl (by first | exact fun _ => rfl | exact fun h => h | exact fun h => bL h | exact fun h => bL (bL h) | exact fun h => bL (bL (bL h)))) rfl rfl rfl (by simp [Value.oneCell']) c5 rfl ?_)
    intro Wd hbd hwd
    have hD := hD.wr c5 hwd
    have hba := hba.wr hwd (by omega)
    have hbb := hbb.wr hwd (by omega)
    have hbc := hbc.wr hwd (by omega)
    have d8 := d8.wr hwd (by omega)
    have df := df.wr hwd (by omega)
    refine ⟨⟨hba, d8, df⟩, ?_⟩
    refine GM.nil ?_
    have hkw := (((hkw.trans (hwa.kq (by omega))).trans (hwb.kq (by omega))).trans (hwc.kq (by omega))).trans (hwd.kq (by omega))
    have hkd : Kq (fun g => W0.heap.size ≤ g) W.drew Wd := (((hwa.kq (by omega)).trans (hwb.kq (by omega))).trans (hwc.kq (by omega))).trans (hwd.kq (by omega))
    have hlo : LinS Wd W0.heap.size lv l := hlo.same (fun g hg => hkd.same g (hlo.ow.lt g hg).2 (hlo.ow.lt g hg).1) (fun x hx g hg => hkd.same g ((hlo.lo x hx).lt g hg).2 ((hlo.lo x hx).lt g hg).1)
    have hfo : Owns Wd W0.heap.size fv 74 3 (fams.map famC) := hfo.same fun g hg e => hkd.same g hg (hfo.lt g e).1
    have hlo := lins_out hlo hD
    have hfo := owns_out hfo hD
    have hxo : Ext w (outW r Wd) := (ext_kq hkw).wr (outW_wr r _) (by omega)
    refine G.retM rfl rfl hD fun t ht => ⟨_, resC4 ht rfl rfl rfl rfl rfl (tb.ok _ _ rfl) rfl (tb.ok _ _ rfl) rfl (tb.ok _ _ rfl) rfl (tb.ok _ _ rfl) rfl (Bx.c0 (hba.out hD) rfl) (Bx.c0 (hbb.out hD) rfl) (Bx.c0 (hbc.out hD) rfl) (Bx.c0 (hbd.out hD) rfl), hxo, .inl ⟨lv, fv, l, fams, he, rfl, ?_, hfo.mono (by omega)⟩⟩
    exact ⟨hlo.ow.mono (by omega), fun x hx => (hlo.lo x hx).mono (by omega), hlo.ne⟩
  · rintro r c W hr ⟨rfl, n, e, hkw, h2, h3, h4, h5, he⟩ hD
    have hxo : Ext w (outW r W) := (ext_kq hkw).wr (outW_wr r _) (by omega)
    exact G.retM rfl rfl hD fun t ht => ⟨_, resC4 ht rfl rfl rfl rfl rfl (tb.ok _ _ rfl) rfl (tb.ok _ _ rfl) rfl (tb.ok _ _ rfl) rfl (tb.ok _ _ rfl) rfl (Bx.c0 (h2.out hD) rfl) (Bx.c0 (h3.out hD) rfl) (Bx.c0 (h4.out hD) rfl) (Bx.c0 (h5.out hD) rfl), hxo, .inr ⟨n, e, he, rfl⟩⟩
end Go.Proofs.YtcngoccnfmhhnaaGreatDoor
end
section
open Go Go.Vg Go.RowKit Go.Proofs Go.Proofs.YtcngoccnfmhhnaaGreatDoor
namespace Go.Proofs.YtcngoccnfmhhnaaGreatDoor.Lab

theorem getX {ls : List Lab} {k : Nat} (h : k < ls.length) : ∃ x, (ls.map labC)[k]? = some (labC x) ∧ ls.drop k = x :: ls.drop (k + 1) :=
  ⟨ls[k], by simp [h], List.drop_eq_getElem_cons h⟩

end Go.Proofs.YtcngoccnfmhhnaaGreatDoor.Lab
end
section
open Go Go.Vg Go.RowKit Go.Proofs Go.Proofs.YtcngoccnfmhhnaaGreatDoor
namespace Go.Proofs.YtcngoccnfmhhnaaGreatDoor.Lab

theorem strT : Tryz.prog.underlying 9 = some .string := tb.ok _ _ rfl
theorem strA (w : World) : (isAgg 9).run Tryz.prog w = .ok false w := run_isAgg strT w
theorem eqLab (x y : Lab) (fs : Array Field) (h : tb.ty 76 = some (.struct fs)) (w : World) : (Op.eqFields 9999 ⟨labC x⟩ ⟨labC y⟩ fs.toList).run Tryz.prog w = .ok (decide (x = y)) w := by
  cases h
  have e1 : ∀ w, (Op.equalIn 9999 9 (S x.1) (S y.1)).run Tryz.prog w = .ok (decide (x.1 = y.1)) w := fun w => by
    have := run_equalIn_string (P := Tryz.prog) w 9998 9 ⟨⟨x.1⟩⟩ ⟨⟨y.1⟩⟩ strT
    rw [toL, toL, beqL] at this; exact this
  have e2 : ∀ w, (Op.equalIn 9999 9 (S x.2) (S y.2)).run Tryz.prog w = .ok (decide (x.2 = y.2)) w := fun w => by
    have := run_equalIn_string (P := Tryz.prog) w 9998 9 ⟨⟨x.2⟩⟩ ⟨⟨y.2⟩⟩ strT
    rw [toL, toL, beqL] at this; exact this
  have e : decide (x = y) = (decide (x.1 = y.1) && decide (x.2 = y.2)) := by
    obtain ⟨a, b⟩ := x
    obtain ⟨a', b'⟩ := y
    simp [Prod.mk.injEq, Bool.decide_and]
  rw [e]
  simp only [labC, Op.eqFields, part, strA, Sem.run_bind, Result.andThen_ok]
  have h1 : decide (x.1 = y.1) = true ∨ decide (x.1 = y.1) = false := by cases decide (x.1 = y.1) <;> simp
  have h2 : decide (x.2 = y.2) = true ∨ decide (x.2 = y.2) = false := by cases decide (x.2 = y.2) <;> simp
  generalize decide (x.1 = y.1) = p1 at e1 h1 ⊢
  generalize decide (x.2 = y.2) = p2 at e2 h2 ⊢
  rcases h1 with rfl | rfl <;> rcases h2 with rfl | rfl <;> simp [strA, e1, e2]

def eqN (a b : List Lab) : Bool := decide (a = b)
theorem keepLabels_ok (v u : Value) (a b : List Lab) (w : World) (hv : Labs w v a) (hu : Labs w u b) :
    Ret Tryz.prog 36 ⟨[v, u]⟩ w fun r w' => r = .bool (eqN a b) ∧ Ext w w' := by
  have hbd := Labs.bound hv
  have hbd2 := Labs.bound hu
  refine ret_of_G Tryz.func36 rfl Tryz.ntmps36 rfl ?_
  simp only [argEnv]
  refine rn ?_
  rw [List.length_map, List.length_map]
  refine rn ?_
  first | refine G.condD rfl (fun hc => ?_) (fun hc => ?_) | refine G.condN rfl (fun hc => ?_) (fun hc => ?_) | refine G.cond rfl (fun hc => ?_) (fun hc => ?_)
  · have hne : eqN a b = false := by
      refine decide_eq_false fun e => hc ?_
      rw [e]
    refine rn ?_
    refine G.ret1 rfl rfl rfl rfl ?_
    exact ⟨by rw [hne], Ext.refl _⟩
  · refine rn ?_
    refine (G.loop (fun k : Nat => [(0, none, v), (1, none, u), (5, none, .int .i64 k)]) (fun k w' => Ext w w' ∧ k ≤ a.length ∧ a.take k = b.take k) (fun k => a.length - k) 0 (by repeat (first | exact Sub.nil _ | refine Sub.cons rfl ?_)) ⟨Ext.refl _, by omega, by simp⟩ ?_)
    rintro k w1 ⟨hx1, hk, hto⟩
    have hv1 := hv.to hx1
    have hu1 := hu.to hx1
    refine rn ?_
    rw [List.length_map]
    have hc0 := hc
    refine rn ?_
    first | refine G.condD rfl (fun hc => ?_) (fun hc => ?_) | refine G.condN rfl (fun hc => ?_) (fun hc => ?_) | refine G.cond rfl (fun hc => ?_) (fun hc => ?_)
    · have hlt : k < a.length := by omega
      have hlt2 : k < b.length := by omega
      obtain ⟨x, hgx, hdx⟩ := getX hlt
      obtain ⟨y, hgy, hdy⟩ := getX hlt2
      refine rn ?_
      refine G.regionM [(0, true), (1, true), (2, true), (3, true), (4, true), (5, true), (6, true), (7, true), (8, true)] (Ext w1) (by kernel_rfl) (by kernel_rfl) rfl mixed (Ext.drew w1) rfl ?_
      try (refine mm tb ?_); repeat ((first | refine dFa tb ?_ | refine dLd tb ?_ | refine dLa tb ?_ | refine dLen tb ?_ | refine dFd tb ?_ | refine dIa tb k ?_); try (refine mm tb ?_))
      refine GM.read (fun w' hS => Step.eqSt tb rfl (Op1.of rfl (by first | exact fun _ => rfl | exact fun h => h | exact fun h => bL h | exact fun h => bL (bL h) | exact fun h => bL (bL (bL h)))) (Op1.of rfl (by first | exact fun _ => rfl | exact fun h => h | exact fun h => bL h | exact fun h => bL (bL h) | exact fun h => bL (bL (bL h)))) rfl (by kernel_rfl) (by kernel_rfl) (eqLab x y _ rfl) rfl (.inr rfl) ⟨rfl, rfl⟩) rfl rfl ?_
      refine GM.nil ?_
      have hx2 := hx1.drew'
      generalize w1.drew = w2 at hx2 ⊢
      refine rn ?_
      first | refine G.condD rfl (fun hc => ?_) (fun hc => ?_) | refine G.condN rfl (fun hc => ?_) (fun hc => ?_) | refine G.cond rfl (fun hc => ?_) (fun hc => ?_)
      · have hne : eqN a b = false := by
          refine decide_eq_false fun e => hc ?_
          subst e
          rw [hdx] at hdy
          exact (List.cons.inj hdy).1
        refine rn ?_
        refine G.ret1 rfl rfl rfl rfl ?_
        exact ⟨by rw [hne], hx2⟩
      · subst hc
        refine rn ?_
        refine sAd tb ?_
        refine rn ?_
        refine G.lp (k + 1) (by repeat (first | exact Sub.nil _ | refine Sub.cons rfl ?_)) ⟨hx2, by omega, ?_⟩ (by omega)
        rw [List.take_succ_eq_append_getElem hlt, List.take_succ_eq_append_getElem hlt2, hto]
        have h1 : a[k] = x := by rw [List.drop_eq_getElem_cons hlt] at hdx; exact (List.cons.inj hdx).1
        have h2 : b[k] = x := by rw [List.drop_eq_getElem_cons hlt2] at hdy; exact (List.cons.inj hdy).1
        rw [h1, h2]
    · have hke : k = a.length := by omega
      have hkb : k = b.length := by omega
      refine rn ?_
      refine G.ret1 rfl rfl rfl rfl ?_
      refine ⟨?_, hx1⟩
      rw [List.take_of_length_le (by omega), List.take_of_length_le (by omega)] at hto
      rw [hto]; simp [eqN]
end Go.Proofs.YtcngoccnfmhhnaaGreatDoor.Lab
end
section
open Go Go.Vg Go.RowKit Go.Proofs Go.Proofs.YtcngoccnfmhhnaaGreatDoor
namespace Go.Proofs.YtcngoccnfmhhnaaGreatDoor
open Go.Ex

theorem keepBits_ok (a : Nat) (w : World) : Ret Tryz.prog 37 ⟨[Fl a, Fl a]⟩ w fun r w' => r = .bool true ∧ Ext w w' := by
  refine ret_of_G Tryz.func37 rfl Tryz.ntmps37 rfl ?_
  simp only [argEnv]
  refine rn ?_
  refine GL.cons (Step.ext rfl rfl (by repeat (first | exact OpL.nil | refine OpL.cons (Op1.of rfl (by first | exact fun _ => rfl | exact fun h => h | exact fun h => bL h | exact fun h => bL (bL h) | exact fun h => bL (bL (bL h)))) ?_)) (run_fbits Tryz.func73 (by kernel_rfl) (by kernel_rfl) (by kernel_rfl) (by kernel_rfl) a _) rfl ?_)
  refine rn ?_
  refine GL.cons (Step.ext rfl rfl (by repeat (first | exact OpL.nil | refine OpL.cons (Op1.of rfl (by first | exact fun _ => rfl | exact fun h => h | exact fun h => bL h | exact fun h => bL (bL h) | exact fun h => bL (bL (bL h)))) ?_)) (run_fbits Tryz.func73 (by kernel_rfl) (by kernel_rfl) (by kernel_rfl) (by kernel_rfl) a _) rfl ?_)
  refine rn ?_
  refine G.ret1 rfl rfl rfl rfl ?_
  exact ⟨by simp, Ext.refl _⟩
theorem keepLines_ok (v u : Value) (a b : List Sm) (w : World) (hv : Sli w v 4 (a.map smC)) (hu : Sli w u 4 (b.map smC)) (ha : ∀ x ∈ a, Lab.Labs w x.v x.out) (hb : ∀ x ∈ b, Lab.Labs w x.v x.out) (he : a.map smP = b.map smP) :
    Ret Tryz.prog 16 ⟨[v, u]⟩ w fun r w' => r = .bool true ∧ Ext w w' := by
  have hl : a.length = b.length := by have := congrArg List.length he; simpa using this
  have hla : (a.map smC).length = a.length := by simp
  have hlb : (b.map smC).length = b.length := by simp
  have hbd := hv.bound
  refine ret_of_G Tryz.func16 rfl Tryz.ntmps16 rfl ?_
  simp only [argEnv]
  refine rn ?_
  rw [hla, hlb, hl]
  first | refine G.condD rfl (fun hc => ?_) (fun hc => ?_) | refine G.condN rfl (fun hc => ?_) (fun hc => ?_) | refine G.cond rfl (fun hc => ?_) (fun hc => ?_)
  · exact absurd rfl hc
  refine rn ?_
  refine (G.loop (fun k : Nat => [(0, none, v), (1, none, u), (5, none, .int .i64 k)]) (fun k w' => Ext w w' ∧ k ≤ a.length) (fun k => a.length - k) 0 (by repeat (first | exact Sub.nil _ | refine Sub.cons rfl ?_)) ⟨Ext.refl _, by omega⟩ ?_)
  rintro k W ⟨hx, hk⟩
  have hv1 := hv.to hx
  have hu1 := hu.to hx
  refine rn ?_
  first | refine G.condD rfl (fun hc => ?_) (fun hc => ?_) | refine G.condN rfl (fun hc => ?_) (fun hc => ?_) | refine G.cond rfl (fun hc => ?_) (fun hc => ?_)
  · have hlt : k < a.length := by omega
    obtain ⟨x, hx1⟩ : ∃ x, a[k]? = some x := ⟨_, List.getElem?_eq_getElem hlt⟩
    obtain ⟨y, hy1⟩ : ∃ y, b[k]? = some y := ⟨_, List.getElem?_eq_getElem (by omega)⟩
    have hxy : smP x = smP y := by
      have := congrArg (fun l => l[k]?) he
      simpa [hx1, hy1] using this
    have hL : x.L = y.L := congrArg Prod.fst hxy
    have hO : x.out = y.out := congrArg Prod.snd hxy
    have hgx : (a.map smC)[k]? = some (smC x) := by simp [hx1]
    have hgy : (b.map smC)[k]? = some (smC y) := by simp [hy1]
    have hxl := (ha x (List.mem_of_getElem? hx1)).to hx
    have hyl := (hb y (List.mem_of_getElem? hy1)).to hx
    unfold smC linC at hgx hgy
    refine rn ?_
    refine G.regionM [(0, true), (1, true), (2, true), (3, true), (4, true), (5, true), (6, true), (7, true), (8, true), (9, true), (10, false), (11, true), (12, true), (13, true), (14, true), (15, true), (16, true), (17, true), (18, true), (19, true), (20, true), (21, true), (22, true), (23, false), (24, true), (25, true), (26, true), (27, true), (28, true), (29, true), (30, true), (31, true), (32, true), (33, true), (34, true), (35, true), (36, true), (37, true), (38, true), (39, true), (40, true), (41, true), (42, true), (43, true), (44, true), (45, true), (46, true), (47, true), (48, true), (49, true), (50, true), (51, true)] (Ext W) (by kernel_rfl) (by kernel_rfl) rfl mixed (Ext.drew W) rfl ?_
    try (refine mm tb ?_); repeat ((first | refine dFa tb ?_ | refine dLd tb ?_ | refine dLa tb ?_ | refine dLen tb ?_ | refine dFd tb ?_ | refine dIa tb k ?_); try (refine mm tb ?_))
    have heq : Lab.eqN x.out y.out = true := decide_eq_true hO
    refine GM.eff (Step.callF rfl rfl rfl c36 rfl (Lab.keepLabels_ok x.v y.v x.out y.out W.drew (hxl.to (Ext.drew W)) (hyl.to (Ext.drew W))) ?_)
    rintro _ W2 ⟨rfl, hx2⟩
    have hx2 := (Ext.drew W).trans hx2
    refine ⟨hx2, ?_⟩
    rw [heq]
    try (refine mm tb ?_); repeat ((first | refine dFa tb ?_ | refine dLd tb ?_ | refine dLa tb ?_ | refine dLen tb ?_ | refine dFd tb ?_ | refine dIa tb k ?_); try (refine mm tb ?_))
    rw [← hL]
    have hb := keepBits_ok x.L.val W2
    refine GM.eff (Step.on rfl rfl (Step.callO rfl rfl (by repeat (first | exact OpL.nil | refine OpL.cons (Op1.of rfl (by first | exact fun _ => rfl | exact fun h => h | exact fun h => bL h | exact fun h => bL (bL h) | exact fun h => bL (bL (bL h)))) ?_)) c37 rfl hb ?_))
    rintro _ W3 ⟨rfl, hx3⟩
    have hx3 := hx2.trans hx3
    refine ⟨hx3, ?_⟩
    try (refine mm tb ?_); repeat ((first | refine dFa tb ?_ | refine dLd tb ?_ | refine dLa tb ?_ | refine dLen tb ?_ | refine dFd tb ?_ | refine dIa tb k ?_); try (refine mm tb ?_))
    refine GM.nil ?_
    have hx3 := hx.trans hx3
    refine G.cond rfl (fun hc => ?_) (fun hc => ?_)
    · exfalso
      rw [hL] at hc
      simp at hc
    · refine rn ?_
      refine sAd tb ?_
      refine rn ?_
      exact G.lp (x := k) (k + 1) (by repeat (first | exact Sub.nil _ | refine Sub.cons rfl ?_)) ⟨hx3, by omega⟩ (by omega)
  · refine rn ?_
    refine G.ret1 rfl rfl rfl rfl ?_
    exact ⟨rfl, hx⟩
end Go.Proofs.YtcngoccnfmhhnaaGreatDoor
end
section
open Go Go.Vg Go.RowKit Go.Proofs Go.Proofs.YtcngoccnfmhhnaaGreatDoor
namespace Go.Proofs.YtcngoccnfmhhnaaGreatDoor
open Go.Ex

def limE : Int := 9007199254740992
/-- a body read alone -/
def rd0 (s : List UInt8) : Except (Nat × Int) St := rdR limE 1 ⟨[], []⟩ (linesP s)
theorem rd_bound {s : List UInt8} (h : s.length ≤ 10000) : ((linesP s).length : Int) < limE := by
  have := (linesP_len s).1
  unfold limE
  omega
theorem rd_err {s : List UInt8} (h : s.length ≤ 10000) {p : Nat × Int} (he : rd0 s = .error p) : p.2 = 8 ∧ 1 ≤ p.1 := by
  have hb := rd_bound h
  rcases readR_two (metB := metB) (lineR := lineR) (lim := limE) (linesP s) 1 1 (⟨[], []⟩ : St) ⟨[], []⟩ (by simpa using hb) (by simpa using hb) with ⟨n, n', h1, _, h3, _⟩ | ⟨q, q', t, h1, _⟩
  · have := he.symm.trans h1
    cases this
    exact ⟨rfl, h3⟩
  · have := he.symm.trans h1
    cases this
theorem rd_len {s : List UInt8} (h : s.length ≤ 10000) {st : St} (he : rd0 s = .ok st) : st.smps.length ≤ s.length + 1 := by
  have hb := rd_bound h
  have hl := (linesP_len s).1
  rcases readR_two (metB := metB) (lineR := lineR) (lim := limE) (linesP s) 1 1 (⟨[], []⟩ : St) ⟨[], []⟩ (by simpa using hb) (by simpa using hb) with ⟨n, n', h1, _⟩ | ⟨q, q', t, h1, _, h3, _, h5⟩
  · have := he.symm.trans h1
    cases this
  · have := he.symm.trans h1
    cases this
    rw [h3]
    simp only [List.nil_append]
    omega
/-- two bodies, read as one -/
theorem rd_two (a b : List UInt8) (ha : a.length ≤ 3000) (hb : b.length ≤ 3000) :
    (∃ n, rd0 (a ++ [10] ++ b) = .error (n, 8) ∧ 1 ≤ n ∧ ((∃ p, rd0 (a ++ [10]) = .error p) ∨ ∃ p, rd0 b = .error p)) ∨
    ∃ s1 s2 s3, rd0 (a ++ [10]) = .ok s1 ∧ rd0 b = .ok s2 ∧ rd0 (a ++ [10] ++ b) = .ok s3 ∧ s3.smps = s1.smps ++ s2.smps := by
  have hla : (a ++ [10]).length ≤ 3001 := by simp; omega
  have h1 := (linesP_len (a ++ [10])).1
  have h2 := (linesP_len b).1
  have hdef : rd0 (a ++ [10] ++ b) = match rd0 (a ++ [10]) with
    | .error e => .error e
    | .ok st' => rdR limE (1 + (linesP (a ++ [10])).length) st' (linesP b) := by
    unfold rd0
    rw [linesP_two]
    refine (readR_app (metB := metB) (lineR := lineR) (lim := limE) (linesP (a ++ [10])) (linesP b) 1 (⟨[], []⟩ : St)).trans ?_
    show _ = match readR metB lineR limE 1 (⟨[], []⟩ : St) (linesP (a ++ [10])) with
      | .error e => (.error e : Except (Nat × Int) St)
      | .ok st' => rdR limE (1 + (linesP (a ++ [10])).length) st' (linesP b)
    generalize readR metB lineR limE 1 (⟨[], []⟩ : St) (linesP (a ++ [10])) = q
    cases q <;> rfl
  have hla2 : (((linesP (a ++ [10])).length : Nat) : Int) + (linesP b).length < limE := by unfold limE; omega
  cases hA : rd0 (a ++ [10]) with
  | error p =>
    rw [hA] at hdef
    obtain ⟨e1, e2⟩ := rd_err (by omega) hA
    refine .inl ⟨p.1, ?_, e2, .inl ⟨p, rfl⟩⟩
    rw [hdef]
    show Except.error p = _
    rw [← e1]
  | ok s1 =>
    rw [hA] at hdef
    simp only at hdef
    have hs1 : s1.smps.length ≤ (linesP (a ++ [10])).length := by
      rcases readR_two (metB := metB) (lineR := lineR) (lim := limE) (linesP (a ++ [10])) 1 1 (⟨[], []⟩ : St) ⟨[], []⟩ (by simp; omega) (by simp; omega) with ⟨n, n', g1, _⟩ | ⟨q, q', t, g1, _, g3, _, g5⟩
      · have := hA.symm.trans g1; cases this
      · have := hA.symm.trans g1
        cases this
        rw [g3]; simpa using g5
    rcases readR_two (metB := metB) (lineR := lineR) (lim := limE) (linesP b) 1 (1 + (linesP (a ++ [10])).length) (⟨[], []⟩ : St) s1 (by simp; omega) (by omega) with ⟨n, n', g1, g2, g3, g4⟩ | ⟨q, q', t, g1, g2, g3, g4, g5⟩
    · exact .inl ⟨n', hdef.trans g2, by omega, .inr ⟨_, g1⟩⟩
    · exact .inr ⟨s1, q, q', rfl, g1, hdef.trans g2, by rw [g4, g3]; simp⟩
end Go.Proofs.YtcngoccnfmhhnaaGreatDoor
end
section
open Go Go.Vg Go.RowKit Go.Proofs Go.Proofs.YtcngoccnfmhhnaaGreatDoor
namespace Go.Proofs.YtcngoccnfmhhnaaGreatDoor
open Go.Ex

theorem smC_one {W : World} {B : Nat} {lv : Value} {l : List Sm} (h : LinS W B lv l) : ∀ y ∈ l.map smC, ∀ c ∈ y, c.oneCell' = true := by
  intro y hy c hc
  obtain ⟨x, hx, rfl⟩ := List.mem_map.1 hy
  exact linC_one ((h.lo x hx).sli.one x.v (List.mem_singleton.2 rfl)) c hc
theorem read_parts {s : List UInt8} {w w' : World} {r : Value} (h : ReadS limE s w r w') : ∃ p q n e, r = .tuple ⟨[p, q, .int .i64 n, .int .i64 e]⟩ ∧ ((e = 0 ∧ ∃ l fams, rd0 s = .ok ⟨l.map smP, fams⟩ ∧ LinS w' w.heap.size p l) ∨ (∃ k : Nat, rd0 s = .error (k, e) ∧ n = k ∧ p = .slice none 0 0)) := by
  obtain ⟨_, ⟨lv, fv, l, fams, h1, rfl, h2, _⟩ | ⟨n, e, h1, rfl⟩⟩ := h
  · exact ⟨_, _, _, _, rfl, .inl ⟨rfl, l, fams, h1, h2⟩⟩
  · exact ⟨_, _, _, _, rfl, .inr ⟨n, h1, rfl, rfl⟩⟩
set_option maxHeartbeats 4000000 in
theorem whole_law (v u : Value) (xs ys : List UInt8) (w : World) (hv : By w v xs) (hu : By w u ys) (hT : Tabs w) :
    Ret Tryz.prog 5 ⟨[v, u]⟩ w fun r w' => r = .bool true ∧ Ext w w' := by
  refine ret_of_G Tryz.func5 rfl Tryz.ntmps5 rfl ?_
  simp only [argEnv]
  refine rn ?_
  refine sBs' tb [] ?_ (hkl := by simp)
  intro v1 w1 ho1 hs1 hx1
  refine rn ?_
  refine sCall c7 (clip_ok v xs w1 (hv.to hx1)) ?_
  rintro va w1' ⟨hva, hw⟩
  obtain rfl : w1 = w1' := hw.symm
  have ha1 := hva w1 (hv.to hx1)
  have hal : (xs.take 1500).length ≤ 1500 := by rw [List.length_take]; omega
  generalize xs.take 1500 = a at ha1 hal
  clear hva hv
  have ho1 : Owns w1 w.heap.size v1 5 1 (bysC []) := ho1
  refine sApb tb ho1 ha1 (fun v2 w2 ho2 hg2 => ?_) (hl := by simp only [List.length_nil]; omega)
  rw [List.nil_append] at ho2
  have hx2 : Ext w w2 := Below.trans (B := w.heap.size) hx1 hg2.bl
  refine sBs' tb (bysC [10]) ?_ (hkl := bysC_k _)
  intro v3 w3 ho3 hs3 hx3
  refine sApb tb (ho2.to hx3) ho3.sli (fun v4 w4 ho4 hg4 => ?_) (hl := by simp only [List.length_cons, List.length_nil]; omega) (hB := by have := hx2.size; have := hx3.size; omega)
  have hx4 : Ext w w4 := Below.trans (B := w.heap.size) (hx2.trans hx3) hg4.bl
  refine rn ?_
  refine sCall c7 (clip_ok u ys w4 (hu.to hx4)) ?_
  rintro vb w4' ⟨hvb, hw⟩
  obtain rfl : w4 = w4' := hw.symm
  have hb4 := hvb w4 (hu.to hx4)
  have hbl : (ys.take 1500).length ≤ 1500 := by rw [List.length_take]; omega
  generalize ys.take 1500 = b at hb4 hbl
  clear hvb hu
  have hxl : (a ++ [10]).length ≤ 1501 := by simp only [List.length_append, List.length_cons, List.length_nil]; omega
  have htwo := rd_two a b (by omega) (by omega)
  generalize a ++ [10] = x at ho4 hxl htwo
  have hT4 := hT.to hx4
  clear ho1 ha1 hs1 hx1 hg2 hx2 ho2 ho3 hs3 hx3 hg4
  have hlx := linesP_len x
  have hlb := linesP_len b
  refine rn ?_
  refine sCall c13 (bodyR_ok w4 v4 x limE ho4.sli (by omega) (fun z hz => by have := hlx.2 z hz; omega) hT4) ?_
  rintro r1 w5 hr1
  have hx5 := hr1.1
  obtain ⟨p1, q1, n1, e1, rfl, h1⟩ := read_parts hr1
  have ho5 := ho4.to hx5
  have hb5 := hb4.to hx5
  have hT5 := hT4.to hx5
  have hx05 := hx4.trans hx5
  clear ho4 hb4 hT4 hx4 hr1
  refine rn ?_
  refine sCall c13 (bodyR_ok w5 vb b limE hb5 (by omega) (fun z hz => by have := hlb.2 z hz; omega) hT5) ?_
  rintro r2 w6 hr2
  have hx6 := hr2.1
  obtain ⟨p2, q2, n2, e2, rfl, h2⟩ := read_parts hr2
  have ho6 := ho5.to hx6
  have hb6 := hb5.to hx6
  have hT6 := hT5.to hx6
  have hx06 := hx05.trans hx6
  clear ho5 hb5 hT5 hx05 hr2
  refine rn ?_
  refine sBs' tb [] ?_ (hkl := by simp)
  intro v7 w7 ho7 hs7 hx7
  have ho7 : Owns w7 w6.heap.size v7 5 1 (bysC []) := ho7
  refine rn ?_
  refine sApb tb ho7 (ho6.to hx7).sli (fun v8 w8 ho8 hg8 => ?_) (hl := by simp only [List.length_nil]; omega)
  rw [List.nil_append] at ho8
  have hx8 : Ext w6 w8 := Below.trans (B := w6.heap.size) hx7 hg8.bl
  refine rn ?_
  refine sApb tb ho8 (hb6.to hx8) (fun v9 w9 ho9 hg9 => ?_) (hl := by omega) (hB := by have := hx8.size; omega)
  have hx9 : Ext w6 w9 := Below.trans (B := w6.heap.size) hx8 hg9.bl
  have hT9 := hT6.to hx9
  have hxyl : (x ++ b).length ≤ 3001 := by rw [List.length_append]; omega
  have hlxy := linesP_len (x ++ b)
  refine sCall c13 (bodyR_ok w9 v9 (x ++ b) limE ho9.sli (by omega) (fun z hz => by have := hlxy.2 z hz; omega) hT9) ?_
  rintro r3 w10 hr3
  have hx10 := hr3.1
  obtain ⟨p3, q3, n3, e3, rfl, h3⟩ := read_parts hr3
  have hx610 := hx9.trans hx10
  have hT10 := hT9.to hx10
  have hx010 := hx06.trans hx610
  clear ho6 hb6 hT6 ho7 ho8 ho9 hT9 hr3 hg8 hg9 hs7 hx7 hx8
  have h1 : (e1 = 0 ∧ ∃ l fams, rd0 x = .ok ⟨l.map smP, fams⟩ ∧ LinS w10 0 p1 l) ∨ (∃ k : Nat, rd0 x = .error (k, e1) ∧ n1 = k ∧ p1 = .slice none 0 0) := by
    rcases h1 with ⟨a1, l, fams, a2, a3⟩ | h1
    · have a4 := (a3.to hx6).to hx610
      exact .inl ⟨a1, l, fams, a2, ⟨a4.ow.mono (Nat.zero_le _), fun x hx => (a4.lo x hx).mono (Nat.zero_le _), a4.ne⟩⟩
    · exact .inr h1
  have h2 : (e2 = 0 ∧ ∃ l fams, rd0 b = .ok ⟨l.map smP, fams⟩ ∧ LinS w10 0 p2 l) ∨ (∃ k : Nat, rd0 b = .error (k, e2) ∧ n2 = k ∧ p2 = .slice none 0 0) := by
    rcases h2 with ⟨a1, l, fams, a2, a3⟩ | h2
    · have a4 := a3.to hx610
      exact .inl ⟨a1, l, fams, a2, ⟨a4.ow.mono (Nat.zero_le _), fun x hx => (a4.lo x hx).mono (Nat.zero_le _), a4.ne⟩⟩
    · exact .inr h2
  have hnil : Sli w10 (.slice none 0 0) 4 [] := Sli.nil _ _
  refine rn ?_
  rcases htwo with ⟨n, hn1, hn2, hn3⟩ | ⟨s1, s2, s3, g1, g2, g3, g4⟩
  · have hp3 : e3 = 8 ∧ n3 = n ∧ p3 = .slice none 0 0 := by
      rcases h3 with ⟨_, l, fams, a2, _⟩ | ⟨k, a1, a2, a3⟩
      · rw [hn1] at a2; cases a2
      · rw [hn1] at a1; cases a1; exact ⟨rfl, a2, a3⟩
    obtain ⟨rfl, rfl, rfl⟩ := hp3
    have hor : e1 ≠ 0 ∨ e2 ≠ 0 := by
      rcases hn3 with ⟨p, hp⟩ | ⟨p, hp⟩
      · rcases h1 with ⟨_, l, fams, a2, _⟩ | ⟨k, a1, _, _⟩
        · rw [hp] at a2; cases a2
        · have h8 := (rd_err (by omega) a1).1
          simp only at h8
          exact .inl (by omega)
      · rcases h2 with ⟨_, l, fams, a2, _⟩ | ⟨k, a1, _, _⟩
        · rw [hp] at a2; cases a2
        · have h8 := (rd_err (by omega) a1).1
          simp only at h8
          exact .inr (by omega)
    refine G.cond rfl (fun hc => ?_) (fun hc => ?_)
    · refine rn ?_
      refine sCallx c11 (fun hc => wakes_ok w10 hT10) ?_
      intro w11 hx11
      refine rn ?_
      refine G.ret1 rfl rfl rfl rfl ?_
      refine ⟨?_, hx010.trans hx11⟩
      rw [decide_eq_true (show (1 : Int) ≤ n by omega)]
      rfl
    · exfalso
      simp at hc
      omega
  · have h1' : e1 = 0 ∧ ∃ l fams, s1 = ⟨l.map smP, fams⟩ ∧ LinS w10 0 p1 l := by
      rcases h1 with ⟨a0, l, fams, a2, a3⟩ | ⟨k, a1, _, _⟩
      · rw [g1] at a2; cases a2; exact ⟨a0, l, fams, rfl, a3⟩
      · rw [g1] at a1; cases a1
    have h2' : e2 = 0 ∧ ∃ l fams, s2 = ⟨l.map smP, fams⟩ ∧ LinS w10 0 p2 l := by
      rcases h2 with ⟨a0, l, fams, a2, a3⟩ | ⟨k, a1, _, _⟩
      · rw [g2] at a2; cases a2; exact ⟨a0, l, fams, rfl, a3⟩
      · rw [g2] at a1; cases a1
    have h3' : e3 = 0 ∧ ∃ l fams, s3 = ⟨l.map smP, fams⟩ ∧ LinS w10 w9.heap.size p3 l := by
      rcases h3 with ⟨a0, l, fams, a2, a3⟩ | ⟨k, a1, _, _⟩
      · rw [g3] at a2; cases a2; exact ⟨a0, l, fams, rfl, a3⟩
      · rw [g3] at a1; cases a1
    obtain ⟨rfl, l1, f1, rfl, hl1⟩ := h1'
    obtain ⟨rfl, l2, f2, rfl, hl2⟩ := h2'
    obtain ⟨rfl, l3, f3, rfl, hl3⟩ := h3'
    simp only at g4
    have hb1 : l1.length ≤ 100000 := by
      have := rd_len (by omega) g1
      simp only [List.length_map] at this
      omega
    have hb2 : l2.length ≤ 100000 := by
      have := rd_len (by omega) g2
      simp only [List.length_map] at this
      omega
    have hm1 : (l1.map smC).length = l1.length := by simp
    have hm2 : (l2.map smC).length = l2.length := by simp
    refine rn ?_
    refine GL.cons (Step.on rfl rfl ?_)
    refine Step.buildSlice tb [] rfl rfl rfl rfl rfl rfl (by rfl) rfl (by rfl) (by rfl) (by rfl) (by simp) rfl ?_
    intro v11 w11 ho11 hs11 hx11
    have hl1a := hl1.to hx11
    refine rn ?_
    refine GL.cons (Step.on rfl rfl ?_)
    refine Step.append tb rfl (Op1.of rfl (fun _ => rfl)) (Op1.of rfl (fun _ => by simp [cv])) rfl rfl rfl (by rfl) ho11 hl1a.ow.sli (smC_one hl1a) (by simp only [List.length_nil]; omega) (by simp only [List.length_nil]; omega) (by omega) rfl ?_
    intro v12 w12 ho12 hg12
    rw [List.nil_append] at ho12
    have hx12 : Ext w10 w12 := Below.trans (B := w10.heap.size) hx11 hg12.bl
    have hl2a := hl2.to hx12
    refine rn ?_
    refine GL.cons (Step.on rfl rfl ?_)
    refine Step.append tb rfl (Op1.of rfl (fun _ => rfl)) (Op1.of rfl (fun _ => by simp [cv])) rfl rfl rfl (by rfl) ho12 hl2a.ow.sli (smC_one hl2a) (by omega) (by omega) hx12.size rfl ?_
    intro v13 w13 ho13 hg13
    have hx13 : Ext w10 w13 := Below.trans (B := w10.heap.size) hx12 hg13.bl
    rw [← List.map_append] at ho13
    have hl1b := hl1.to hx13
    have hl2b := hl2.to hx13
    have hl3b := hl3.to hx13
    have hlabs : ∀ x ∈ l1 ++ l2, Lab.Labs w13 x.v x.out := by
      intro x hx
      rcases List.mem_append.1 hx with hx | hx
      · exact (hl1b.lo x hx).sli
      · exact (hl2b.lo x hx).sli
    have hkl := keepLines_ok p3 v13 l3 (l1 ++ l2) w13 hl3b.ow.sli ho13.sli (fun x hx => (hl3b.lo x hx).sli) hlabs (by rw [g4, List.map_append])
    refine GL.cons (Step.on rfl rfl (Step.callO rfl rfl (by repeat (first | exact OpL.nil | refine OpL.cons (Op1.of rfl (by first | exact fun _ => rfl | exact fun _ => by simp [cv])) ?_)) c16 rfl hkl ?_))
    rintro _ w14 ⟨rfl, hx14⟩
    have hx014 := hx010.trans (hx13.trans hx14)
    refine rn ?_
    refine sCallx c11 (fun hc => wakes_ok w14 (hT10.to (hx13.trans hx14))) ?_
    intro w15 hx15
    refine rn ?_
    refine G.ret1 rfl rfl rfl rfl ?_
    exact ⟨rfl, hx014.trans hx15⟩
end Go.Proofs.YtcngoccnfmhhnaaGreatDoor
end
section
open Go Go.Vg Go.RowKit Go.Proofs Go.Proofs.YtcngoccnfmhhnaaGreatDoor
namespace Go.Proofs.YtcngoccnfmhhnaaGreatDoor
open Go.Lib Go.Shelf Go.ChangeShapes Go.WideShapes Go.ChangeAt

theorem own : ownKnob Tryz.prog.godebug = none := by kernel_rfl
theorem laidOut : laidOutB Tryz.prog = true := by kernel_rfl
def laidL : List (String × DataW Unit) := [("unicode/utf8.acceptRanges", Rows.laid_unicode_utf8_acceptRanges), ("unicode/utf8.first", Rows.laid_unicode_utf8_first)]
theorem acc_eq : Rows.laid_unicode_utf8_acceptRanges (H := Unit) = Lib.acceptData := by kernel_rfl
theorem laidL_eq : laidL = [("unicode/utf8.acceptRanges", Lib.acceptData), ("unicode/utf8.first", Lib.firstData)] := by
  unfold laidL Rows.laid_unicode_utf8_first
  rw [acc_eq, Pinned.utf8First_eq]
theorem tabs {W : World} (hL : laidMetH Tryz.prog laidL W) : Tabs W := by
  rw [laidL_eq] at hL
  exact utf8Tabs_of_readsT (U8Types.of196 Tryz.laysValid) ⟨by kernel_rfl, by kernel_rfl, by kernel_rfl, by kernel_rfl, by kernel_rfl, by kernel_rfl, by kernel_rfl⟩ (Lib.laidMet.reads hL (.tail _ (.head _))) (Lib.laidMet.reads hL (.head _))

/-- a world that holds the tables -/
noncomputable def laidWorld (os : Os) : World :=
  let w0 := World.holding Tryz.prog os ⟨#[], #[], []⟩
  let put (h : Array Obj) (g : Nat) (cs : Array Value) : Array Obj := h.modify g fun
    | .cells _ t frozen => .cells cs t frozen
    | o => o
  let h1 := put w0.heap 2 (Lib.firstTab.map fun z => Value.int .u8 z).toArray
  let h2 := put h1 3 ((List.range 16).flatMap fun i => [Value.int .u8 (Lib.accLo i), Value.int .u8 (Lib.accHi i)]).toArray
  { w0 with heap := h2 }
set_option maxRecDepth 100000 in
theorem laid_met (os : Os) (args : Array Value) : laidMet Tryz.prog laidL ((laidWorld os).forCall (fun _ _ => 0) ⟨#[], args, []⟩).memory := by
  rewrite [laidL_eq]
  exact (LaidIn.of_run (l := [("unicode/utf8.acceptRanges", Lib.acceptData), ("unicode/utf8.first", Lib.firstData)]) [2, 3] 8 (by kernel_rfl) (by kernel_rfl) (by kernel_rfl) (by kernel_rfl)).met

/-- bytes that came in -/
theorem open_bys {H : Type} {enc : TypeId × Value → H} {w : World} {sp : Nat → Bool} {hd : Bool} {b : Nat} {v : Value} {d : DataW H} {p : List MemPlace}
    (hval : OkW Tryz.prog w b 22 v) (h : DataW.Trod enc Tryz.prog w 0 sp hd 22 v d p) : ∃ l : List UInt8, By w v l ∧ ∀ x ∈ l, True := by
  refine open_rows (t := 22) (e := 5) (fun c => [U c]) (fun _ => True) (tb.ok _ _ rfl) (by kernel_rfl) (fun n cs x hx => ?_) hval h
  obtain ⟨m, rfl, hm⟩ := open_int1 (tb.ok _ _ rfl) hx
  have := wf_u8 hm
  have e : ((UInt8.ofNat m.toNat).toNat : Int) = m := by
    have h1 : m.toNat < 256 := by omega
    rw [UInt8.toNat_ofNat_of_lt' h1]; omega
  refine ⟨UInt8.ofNat m.toNat, ?_, trivial⟩
  simp only [U, e]
end Go.Proofs.YtcngoccnfmhhnaaGreatDoor
end
section
open Go Go.Vg Go.RowKit Go.Proofs Go.Proofs.YtcngoccnfmhhnaaGreatDoor
namespace Go.Proofs.YtcngoccnfmhhnaaGreatDoor
open Go.Lib Go.Shelf Go.ChangeShapes Go.WideShapes Go.ChangeAt

set_option maxRecDepth 100000 in
theorem contract_expoWhole (H : Type) (enc : TypeId × Value → H) (W : World) (base : Nat) (args : Array Value) (ds gs : List (DataW H)) (before : List MemPlace)
    (hval : ∀ (j : Nat) t v, Tryz.f5.params[j]? = some t → args[j]? = some v → Value.okWide Tryz.prog W .any base t v)
    (hW : DataW.Whole enc Tryz.prog Tryz.f5.params.toList Rows.expoWholeSpec.vars false W args.toList ds gs before) (hL : laidMetH Tryz.prog Rows.expoWholeRow.laid W) :
    Calls Tryz.prog 5 args W fun e W' => ∃ v, e = .returned v ∧ Rows.expoWholeSpec.post enc Tryz.prog Tryz.f5 false true false false W args v W' := by
  have hW' := hW
  obtain ⟨p, q, hA0, hV, rfl, hfz, hnd⟩ := hW
  have hA : DataW.TrodAll enc Tryz.prog W 0 (fun _ => true) true Tryz.f5.params.toList args.toList ds p := hA0
  rw [Tryz.params5] at hA hval
  obtain ⟨v0, vs0, d0, ds0, p0, q0, hargs, rfl, rfl, h0, r0⟩ := trodAll_cons hA
  obtain ⟨v1, vs1, d1, ds1, p1, q1, rfl, rfl, rfl, h1, r1⟩ := trodAll_cons r0
  obtain ⟨rfl, rfl, rfl⟩ := trodAll_nil r1
  obtain rfl : args = #[v0, v1] := by cases args; simp_all
  have k0 := OkW.mk (hval 0 _ v0 rfl rfl)
  have k1 := OkW.mk (hval 1 _ v1 rfl rfl)
  obtain ⟨x0, hx0, hz0⟩ := open_bys k0 h0
  obtain ⟨x1, hx1, hz1⟩ := open_bys k1 h1
  refine Calls.mono (whole_law v0 v1 x0 x1 W hx0 hx1 (tabs hL)) ?_
  rintro e W' ⟨v, rfl, rfl, hx⟩
  exact ⟨_, rfl, law_post laidOut (by kernel_rfl) (tb := 4) rfl (tb.ok _ _ rfl) rfl hW' rfl hx⟩
theorem reads_expoWhole (os : Os) {H : Type} (enc : TypeId × Value → H) : ∃ places, DataW.whole enc Tryz.prog ((laidWorld os).forCall (fun _ _ => 0) ⟨#[], #[.slice none 0 0, .slice none 0 0], []⟩).memory Tryz.f5.params.toList Rows.expoWholeSpec.vars false #[.slice none 0 0, .slice none 0 0].toList 8 = some ([.nil, .nil], [], places) :=
  ⟨[], by kernel_rfl⟩
set_option maxRecDepth 100000 in
theorem lifted_expoWhole (os : Os) (started : os.Started) (H : Type) (enc : TypeId × Value → H) (F : Stop.Interp) :
    ReturnsInHanded {} Tryz.checked os 5 .any ((OpenSpec.ofChange Rows.expoWholeSpec).preRow enc Tryz.prog Tryz.f5 Rows.expoWholeRow.domain false Rows.expoWholeRow.laid) (((OpenSpec.ofChange Rows.expoWholeSpec).at F).post enc Tryz.prog Tryz.f5 false true false false) := by
  obtain ⟨places, hx⟩ := reads_expoWhole os enc
  refine returnsInHanded_of_row (C := Tryz.checked) (s := OpenSpec.ofChange Rows.expoWholeSpec) own started (by kernel_rfl) Tryz.func5
    (witness_row_at (enc := enc) (C := Tryz.checked) false (laidWorld os) #[.slice none 0 0, .slice none 0 0] rfl (by kernel_rfl) (by kernel_rfl) (by kernel_rfl)
      (OpenSpec.preRow_of_cond 8 hx (by kernel_rfl) (fun k hk => by cases hk) (by kernel_rfl) (laid_met os _))) ?_
  intro W base args ds gs before hval hW _ _ _ hL _ _
  exact contract_expoWhole H enc W base args ds gs before hval hW hL
theorem said_expoWhole : Rows.ExpoWholeSaid :=
  OpenClaim.holds_of_cond 5 Tryz.f5 rfl rfl rfl rfl rfl rfl rfl ⟨rfl, rfl, rfl, rfl, rfl⟩ rfl rfl rfl rfl rfl (by kernel_rfl) Tryz.func5 (by kernel_rfl)
    (of_decide_eq_true (by kernel_rfl)) (by unfold Func.isWrapper; first | (rw [if_pos (by decide +kernel)]; kernel_rfl) | (rw [if_neg (by decide +kernel)]; exact ⟨rfl, rfl⟩))
    (fun os started H enc _ F => by rw [OpenClaim.pre_eq_preRow]; exact lifted_expoWhole os started H enc F)
theorem plain_expoWhole (f : FuncId) (fn : Func) (hf : Tryz.pinned.checked.prog.funcNamed "vigil/vigillaw11.ExpoWhole" = some f) (hfn : Tryz.pinned.checked.prog.funcs[f]? = some fn) :
    true = Tryz.pinned.checked.prog.looks [] ∧ ∀ (j : Nat) t, fn.params[j]? = some t → Tryz.pinned.checked.prog.wantsStandIn t = false := by
  obtain rfl : f = 5 := Option.some.inj ((show Tryz.prog.funcNamed "vigil/vigillaw11.ExpoWhole" = some 5 by kernel_rfl).symm.trans hf) |>.symm
  obtain rfl : fn = Tryz.f5 := (Option.some.inj (Tryz.func5.symm.trans hfn)).symm
  refine ⟨by kernel_rfl, fun j t ht => ?_⟩
  rw [Tryz.params5] at ht
  have hm : t ∈ #[22, 22] := Array.mem_of_getElem? ht
  simp only [List.mem_toArray, List.mem_cons, List.not_mem_nil, or_false] at hm
  rcases hm with rfl | rfl
  · exact (show Tryz.prog.wantsStandIn 22 = false by kernel_rfl)
  · exact (show Tryz.prog.wantsStandIn 22 = false by kernel_rfl)
/-- ExpoWhole: whatever the two bodies, the law of bodies read as their parts returns true and leaves what came in alone. -/
theorem ExpoWhole_holds : Rows.ExpoWholeCardSaid :=
  Claim7.holds_tied_plain_at .later [] _ _ _ _ said_expoWhole (fun _ h => by cases h) (by kernel_rfl) (fun _ h => by cases h) expoWhole_row_tie rfl ⟨rfl, rfl⟩ (by kernel_rfl) rfl plain_expoWhole (by kernel_rfl)
end Go.Proofs.YtcngoccnfmhhnaaGreatDoor
end
