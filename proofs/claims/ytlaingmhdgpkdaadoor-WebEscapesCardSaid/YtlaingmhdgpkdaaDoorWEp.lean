/- What is escaped is read as it was: plain. -/
import Derived.Test.YtlaingmhdgpkdaaDoorWEs
open Go Go.Vg Go.RowKit Go.Proofs Go.Proofs.YtlaingmhdgpkdaaDoor
namespace Go.Proofs.YtlaingmhdgpkdaaDoor
set_option linter.unusedSimpArgs false

/-! ### bytes of what is escaped -/
def escC (b : UInt8) : Bool := decide (b = 37) || rngC 48 57 b || rngC 97 102 b
theorem hexS_ok (a : Nat) (h : a < 16) : (rngC 48 57 (hexS.getD a 0) || rngC 97 102 (hexS.getD a 0)) = true ∧ hexI (hexS.getD a 0) = (a : Int) := by
  have : ∀ a : Fin 16, (rngC 48 57 (hexS.getD a.val 0) || rngC 97 102 (hexS.getD a.val 0)) = true ∧ hexI (hexS.getD a.val 0) = (a.val : Int) := by decide
  exact this ⟨a, h⟩
theorem escP_C (s : List UInt8) : ∀ b ∈ escP s, escC b = true := by
  intro b hb
  obtain ⟨c, _, hc⟩ := List.mem_flatMap.1 hb
  have h256 := c.toNat_lt
  have h1 := (hexS_ok (c.toNat / 16) (by omega)).1
  have h2 := (hexS_ok (c.toNat % 16) (by omega)).1
  simp only [esc1, List.mem_cons, List.not_mem_nil, or_false] at hc
  unfold escC
  rcases hc with rfl | rfl | rfl
  · rfl
  · rw [Bool.or_assoc, h1]; simp
  · rw [Bool.or_assoc, h2]; simp
theorem escC_ne {b : UInt8} (h : escC b = true) : b ≠ 38 ∧ b ≠ 61 ∧ b ≠ 13 ∧ b ≠ 32 ∧ b ≠ 63 ∧ rngC 33 126 b = true := by
  have : ∀ n : Fin 256, escC (UInt8.ofNat n.val) = true → (UInt8.ofNat n.val) ≠ 38 ∧ (UInt8.ofNat n.val) ≠ 61 ∧ (UInt8.ofNat n.val) ≠ 13 ∧ (UInt8.ofNat n.val) ≠ 32 ∧ (UInt8.ofNat n.val) ≠ 63 ∧ rngC 33 126 (UInt8.ofNat n.val) = true := by decide +kernel
  have hb : UInt8.ofNat b.toNat = b := by simp
  have := this ⟨b.toNat, b.toNat_lt⟩
  simp only [hb] at this
  exact this h
theorem dec_esc (s : List UInt8) : decP true (escP s) = some s := by
  induction s with
  | nil => rfl
  | cons c r ih =>
    have h256 := c.toNat_lt
    have h1 := (hexS_ok (c.toNat / 16) (by omega)).2
    have h2 := (hexS_ok (c.toNat % 16) (by omega)).2
    show decP true (37 :: hexS.getD (c.toNat / 16) 0 :: hexS.getD (c.toNat % 16) 0 :: escP r) = _
    rw [decP_cons, if_neg (by decide), if_pos (by decide)]
    simp only
    rw [h1, h2, if_neg (by omega), ih]
    simp only [Option.map_some, Option.some.injEq, List.cons.injEq, and_true]
    have e : (16 * ((c.toNat / 16 : Nat) : Int) + ((c.toNat % 16 : Nat) : Int)) = (c.toNat : Int) := by omega
    rw [e]
    unfold byI
    have : ((c.toNat : Int) % 256).toNat = c.toNat := by omega
    simp [this]
/-- one parameter -/
def itP (x : Lab) : List UInt8 := escP x.1 ++ [61] ++ escP x.2
def qR : List Lab → List UInt8
  | [] => []
  | [x] => itP x
  | x :: y :: r => itP x ++ 38 :: qR (y :: r)
theorem qR_snoc : ∀ (ls : List Lab) (x : Lab), qR (ls ++ [x]) = if ls = [] then itP x else qR ls ++ 38 :: itP x
  | [], _ => rfl
  | [_], _ => rfl
  | a :: b :: r, x => by
    have ih := qR_snoc (b :: r) x
    rw [if_neg (by simp)] at ih
    rw [if_neg (by simp)]
    show itP a ++ 38 :: qR (b :: r ++ [x]) = itP a ++ 38 :: qR (b :: r) ++ 38 :: itP x
    rw [ih]; simp
theorem itP_ne (x : Lab) : itP x ≠ [] := by unfold itP; simp
theorem qR_nil {ls : List Lab} : qR ls = [] ↔ ls = [] := by
  constructor
  · intro h
    match ls, h with
    | [], _ => rfl
    | [x], h => exact absurd h (itP_ne x)
    | x :: y :: r, h => simp [qR] at h
  · rintro rfl; rfl
theorem itP_len (x : Lab) : (itP x).length = 3 * (x.1.length + x.2.length) + 1 := by
  unfold itP; simp only [List.length_append, escP_len, List.length_cons, List.length_nil]; omega
theorem qR_len {L : Nat} : ∀ (ls : List Lab), (∀ x ∈ ls, x.1.length + x.2.length ≤ L) → (qR ls).length ≤ ls.length * (3 * L + 2)
  | [], _ => by simp [qR]
  | [x], h => by
    have := h x (by simp)
    show (itP x).length ≤ _
    rw [itP_len, List.length_singleton]; omega
  | x :: y :: r, h => by
    have h1 := h x (by simp)
    have ih := qR_len (L := L) (y :: r) (fun z hz => h z (by simp [hz]))
    show (itP x ++ 38 :: qR (y :: r)).length ≤ _
    have e : (x :: y :: r).length = (y :: r).length + 1 := rfl
    rw [List.length_append, List.length_cons, itP_len, e, Nat.add_mul (y :: r).length 1, Nat.one_mul]
    omega
theorem itP_mem {x : Lab} {b : UInt8} (h : b ∈ itP x) : escC b = true ∨ b = 61 := by
  unfold itP at h
  rw [List.mem_append, List.mem_append] at h
  rcases h with (h | h) | h
  · exact .inl (escP_C _ b h)
  · exact .inr (by simpa using h)
  · exact .inl (escP_C _ b h)
theorem qR_mem : ∀ (ls : List Lab) {b : UInt8}, b ∈ qR ls → escC b = true ∨ b = 61 ∨ b = 38
  | [], _, h => by simp [qR] at h
  | [x], _, h => (itP_mem (x := x) h).imp id .inl
  | x :: y :: r, b, h => by
    have h : b ∈ itP x ++ 38 :: qR (y :: r) := h
    rw [List.mem_append, List.mem_cons] at h
    rcases h with h | h | h
    · exact (itP_mem h).imp id .inl
    · exact .inr (.inr h)
    · exact qR_mem (y :: r) h
theorem qR_ok {ls : List Lab} {b : UInt8} (h : b ∈ qR ls) : b ≠ 13 ∧ b ≠ 32 ∧ b ≠ 63 ∧ rngC 33 126 b = true := by
  rcases qR_mem ls h with h | rfl | rfl
  · have := escC_ne h; exact ⟨this.2.2.1, this.2.2.2.1, this.2.2.2.2.1, this.2.2.2.2.2⟩
  · decide
  · decide
theorem pieces0 {sep s : List UInt8} (hs : sep ≠ []) (h : skips sep s = true) : piecesL s sep = [s] := by
  rw [piecesL_cut hs, cut_skips0 hs s h]; rfl
theorem pieces1 {sep : List UInt8} (hs : sep ≠ []) (pre t : List UInt8) (h : skips sep pre = true) : piecesL (pre ++ (sep ++ t)) sep = pre :: piecesL t sep := by
  rw [piecesL_cut hs, cut_skips hs pre t h]; rfl
theorem pieces_qR : ∀ (ls : List Lab), ls ≠ [] → piecesL (qR ls) [38] = ls.map itP
  | [], h => absurd rfl h
  | [x], _ => pieces0 (by simp) (skips_ne _ (fun b hb => by
      rcases itP_mem hb with h | rfl
      · exact (escC_ne h).1
      · decide))
  | x :: y :: r, _ => by
    have ih := pieces_qR (y :: r) (by simp)
    have := pieces1 (sep := [38]) (by simp) (itP x) (qR (y :: r)) (skips_ne _ (fun b hb => by
      rcases itP_mem hb with h | rfl
      · exact (escC_ne h).1
      · decide))
    show piecesL (itP x ++ 38 :: qR (y :: r)) [38] = _
    rw [List.singleton_append] at this
    rw [this, ih]; rfl
theorem part_it (x : Lab) : partP (itP x) = some x := by
  have hc := cut_skips (sep := [61]) (by simp) (escP x.1) (escP x.2) (skips_ne _ (fun b hb => (escC_ne (escP_C _ b hb)).2.1))
  unfold partP itP
  rw [List.append_assoc, hc]
  simp only [dec_esc]
theorem params_its : ∀ (ls : List Lab), paramsL (ls.map itP) = some ls
  | [] => rfl
  | x :: r => by
    simp only [List.map_cons, paramsL]
    rw [if_neg (itP_ne x), part_it, params_its r]; rfl
theorem params_qR (ls : List Lab) : paramsL (piecesL (qR ls) [38]) = some ls := by
  by_cases h : ls = []
  · subst h; decide +kernel
  · rw [pieces_qR ls h, params_its]

/-! ### the requests -/
def getHd : List UInt8 := [71, 69, 84, 32, 47, 112, 63]
def getTl : List UInt8 := [32, 72, 84, 84, 80, 47, 49, 46, 49, 13, 10, 13, 10]
theorem read_get (ls : List Lab) (hl : (qR ls).length ≤ 10000) (hv : ls.all vLab = true) : readP (getHd ++ qR ls ++ getTl) = ((getS, [47, 112], ls), 200) := by
  have hq := fun b (h : b ∈ qR ls) => qR_ok (ls := ls) h
  have hp := params_qR ls
  generalize qR ls = q at hl hq hp ⊢
  have hraw : getHd ++ q ++ getTl = (getHd ++ q ++ [32, 72, 84, 84, 80, 47, 49, 46, 49]) ++ ([13, 10, 13, 10] ++ []) := by simp [getTl]
  have hno : ∀ b ∈ getHd ++ q ++ [32, 72, 84, 84, 80, 47, 49, 46, 49], b ≠ 13 := by
    intro b hb
    rw [List.mem_append, List.mem_append] at hb
    rcases hb with (hb | hb) | hb
    · revert b; decide
    · exact (hq b hb).1
    · revert b; decide
  have hc := cut_skips (sep := [13, 10, 13, 10]) (by simp) _ [] (skips_ne _ hno)
  have hlen : (getHd ++ q ++ getTl).length ≤ 1048576 := by simp only [List.length_append, getHd, getTl, List.length_cons, List.length_nil]; omega
  have hpc := pieces0 (sep := [13, 10]) (by simp) (skips_ne _ hno)
  have hla : lineA (getHd ++ q ++ [32, 72, 84, 84, 80, 47, 49, 46, 49]) = (getS, [47, 112, 63] ++ q, true) := by
    have e1 : getHd ++ q ++ [32, 72, 84, 84, 80, 47, 49, 46, 49] = getS ++ ([32] ++ ([47, 112, 63] ++ q ++ [32, 72, 84, 84, 80, 47, 49, 46, 49])) := by simp [getHd, getS]
    have c1 := cut_skips (sep := [32]) (by simp) getS ([47, 112, 63] ++ q ++ [32, 72, 84, 84, 80, 47, 49, 46, 49]) (by decide)
    have e2 : [47, 112, 63] ++ q ++ [32, 72, 84, 84, 80, 47, 49, 46, 49] = ([47, 112, 63] ++ q) ++ ([32] ++ [72, 84, 84, 80, 47, 49, 46, 49]) := by simp
    have c2 := cut_skips (sep := [32]) (by simp) ([47, 112, 63] ++ q) [72, 84, 84, 80, 47, 49, 46, 49] (skips_ne _ (fun b hb => by
      rw [List.mem_append] at hb
      rcases hb with hb | hb
      · revert b; decide
      · exact (hq b hb).2.1))
    unfold lineA
    rw [e1, c1]
    simp only
    rw [e2, c2]
    simp only
    have hm : madeP (rngC 33 126) ([47, 112, 63] ++ q) = true := by
      unfold madeP
      rw [Bool.and_eq_true, List.all_eq_true]
      refine ⟨fun b hb => ?_, by simp⟩
      rw [List.mem_append] at hb
      rcases hb with hb | hb
      · revert b; decide
      · exact (hq b hb).2.2.2
    have hpx : Lib.hasPrefix ([47, 112, 63] ++ q) [47] = true := List.isPrefixOf_iff_prefix.2 ⟨[112, 63] ++ q, rfl⟩
    rw [hm, hpx]
    rfl
  unfold readP
  rw [if_neg (by omega), hraw, hc]
  unfold readH
  rw [hpc]
  simp only [List.tail_cons, List.headD_cons, headP, hla]
  rw [if_neg (by decide), if_neg (by decide)]
  have ct := cut_skips (sep := [63]) (by simp) [47, 112] q (by decide)
  have et : [47, 112, 63] ++ q = [47, 112] ++ ([63] ++ q) := rfl
  unfold readB
  rw [et, ct]
  simp only [hp]
  rw [show decP false [47, 112] = some [47, 112] by decide +kernel]
  simp only
  have htx : textP [47, 112] ls = true := by unfold textP; rw [hv]; decide +kernel
  rw [htx, if_neg (by simp), if_neg (by decide)]

def postL0 : List UInt8 := [80, 79, 83, 84, 32, 47, 112, 32, 72, 84, 84, 80, 47, 49, 46, 49]
def postL1 : List UInt8 := [67, 111, 110, 116, 101, 110, 116, 45, 84, 121, 112, 101, 58, 32, 97, 112, 112, 108, 105, 99, 97, 116, 105, 111, 110, 47, 120, 45, 119, 119, 119, 45, 102, 111, 114, 109, 45, 117, 114, 108, 101, 110, 99, 111, 100, 101, 100]
def postL2 : List UInt8 := [67, 111, 110, 116, 101, 110, 116, 45, 76, 101, 110, 103, 116, 104, 58, 32]
def postHd : List UInt8 := postL0 ++ [13, 10] ++ postL1 ++ [13, 10] ++ postL2
def intOK (n : Nat) : Bool := decide (intP (digF 19 n) = some (n : Int))
theorem int0 : (List.range' 0 1000).all intOK = true := by decide +kernel
theorem int1 : (List.range' 1000 1000).all intOK = true := by decide +kernel
theorem int2 : (List.range' 2000 1000).all intOK = true := by decide +kernel
theorem int3 : (List.range' 3000 1000).all intOK = true := by decide +kernel
theorem int4 : (List.range' 4000 1000).all intOK = true := by decide +kernel
theorem int5 : (List.range' 5000 1000).all intOK = true := by decide +kernel
theorem int_at {a b n : Nat} (h : (List.range' a b).all intOK = true) (h1 : a ≤ n) (h2 : n < a + b) : intP (digF 19 n) = some (n : Int) :=
  of_decide_eq_true (List.all_eq_true.1 h n (List.mem_range'_1.2 ⟨h1, h2⟩))
theorem int_dig (n : Nat) (h : n < 6000) : intP (digF 19 n) = some (n : Int) := by
  by_cases h0 : n < 1000
  · exact int_at int0 (by omega) (by omega)
  by_cases h1 : n < 2000
  · exact int_at int1 (by omega) (by omega)
  by_cases h2 : n < 3000
  · exact int_at int2 (by omega) (by omega)
  by_cases h3 : n < 4000
  · exact int_at int3 (by omega) (by omega)
  by_cases h4 : n < 5000
  · exact int_at int4 (by omega) (by omega)
  · exact int_at int5 (by omega) (by omega)
theorem dig1 (n : Nat) (h : n < 10) : rngC 48 57 (byI (48 + (n : Int))) = true := by
  have : ∀ n : Fin 10, rngC 48 57 (byI (48 + (n.val : Int))) = true := by decide
  exact this ⟨n, h⟩
theorem digF_dig : ∀ (f n : Nat), n < 10 ^ (f + 1) → (digF f n).all (rngC 48 57) = true
  | 0, n, h => by simp only [digF, List.all_cons, List.all_nil, Bool.and_true]; exact dig1 n (by omega)
  | f + 1, n, h => by
    simp only [digF]
    split
    · simp only [List.all_cons, List.all_nil, Bool.and_true]; exact dig1 n (by omega)
    · rw [List.all_append, digF_dig f (n / 10) (by rw [Nat.pow_succ] at h; exact Nat.div_lt_of_lt_mul (by rw [Nat.mul_comm]; exact h))]
      simp only [List.all_cons, List.all_nil, Bool.and_true, Bool.true_and]
      exact dig1 (n % 10) (Nat.mod_lt _ (by omega))
theorem digF_ne : ∀ (f n : Nat), digF f n ≠ []
  | 0, n => by simp [digF]
  | f + 1, n => by
    simp only [digF]
    split <;> simp
theorem trim_sp {D : List UInt8} (hn : D ≠ []) (hd : ∀ b ∈ D, b ≠ 32) : Lib.trimB (32 :: D) 32 = D := by
  have hr : Lib.trimRightB (32 :: D) 32 = 32 :: D := by
    unfold Lib.trimRightB
    rw [List.reverse_cons]
    cases hD : D.reverse with
    | nil => exact absurd (List.reverse_eq_nil_iff.1 hD) hn
    | cons a r =>
      have ha : a ≠ 32 := hd a (by rw [← List.mem_reverse, hD]; simp)
      rw [List.cons_append, List.dropWhile_cons, beq_false_of_ne ha]
      simp only [Bool.false_eq_true, if_false, List.reverse_cons, List.reverse_append, List.reverse_nil, List.nil_append, List.singleton_append]
      have : D = r.reverse ++ [a] := by rw [← List.reverse_reverse D, hD, List.reverse_cons]
      rw [this]; rfl
  unfold Lib.trimB
  rw [hr]
  unfold Lib.trimLeftB
  cases D with
  | nil => exact absurd rfl hn
  | cons a r =>
    have ha : a ≠ 32 := hd a (by simp)
    rw [List.dropWhile_cons, if_pos (by decide), List.dropWhile_cons, beq_false_of_ne ha]
    rfl
theorem digs (n : Nat) (h : n < 6000) : intP (digF 19 n) = some (n : Int) ∧ (digF 19 n).all (rngC 48 57) = true ∧ Lib.trimB (32 :: digF 19 n) 32 = digF 19 n ∧ digF 19 n ≠ [] := by
  have h1 := digF_dig 19 n (by omega)
  refine ⟨int_dig n h, h1, trim_sp (digF_ne _ _) (fun b hb => ?_), digF_ne _ _⟩
  have := List.all_eq_true.1 h1 b hb
  rintro rfl
  revert this; decide
theorem dig_ne {b : UInt8} (h : rngC 48 57 b = true) : b ≠ 13 ∧ b ≠ 58 ∧ rngC 32 126 b = true := by
  unfold rngC at h ⊢
  simp only [Bool.and_eq_true, decide_eq_true_eq] at h ⊢
  refine ⟨?_, ?_, by omega, by omega⟩
  · rintro rfl; revert h; decide
  · rintro rfl; revert h; decide
theorem read_post (ls : List Lab) (hl : (qR ls).length < 6000) (hv : ls.all vLab = true) : readP (postHd ++ digF 19 (qR ls).length ++ [13, 10, 13, 10] ++ qR ls) = ((postS, [47, 112], ls), 200) := by
  have hp := params_qR ls
  generalize qR ls = q at hl hp ⊢
  obtain ⟨hd1, hd2, hd3, hd4⟩ := digs q.length (by omega)
  have hdl := digF_len 19 q.length
  generalize digF 19 q.length = D at hd1 hd2 hd3 hd4 hdl ⊢
  have hdm : ∀ b ∈ D, b ≠ 13 ∧ b ≠ 58 ∧ rngC 32 126 b = true := fun b hb => dig_ne (List.all_eq_true.1 hd2 b hb)
  have hc := cut_skips (sep := [13, 10, 13, 10]) (by simp) (postHd ++ D) q (skips_app _ _ (by decide +kernel) (skips_ne _ (fun b hb => (hdm b hb).1)))
  rw [← List.append_assoc] at hc
  have hlen : (postHd ++ D ++ [13, 10, 13, 10] ++ q).length ≤ 1048576 := by
    have : postHd.length = 83 := by decide
    simp only [List.length_append, List.length_cons, List.length_nil, this]; omega
  have hpc : piecesL (postHd ++ D) [13, 10] = [postL0, postL1, postL2 ++ D] := by
    have e : postHd ++ D = postL0 ++ ([13, 10] ++ (postL1 ++ ([13, 10] ++ (postL2 ++ D)))) := by simp [postHd]
    rw [e, pieces1 (by simp) postL0 _ (by decide +kernel), pieces1 (by simp) postL1 _ (by decide +kernel), pieces0 (by simp) (skips_app _ _ (by decide +kernel) (skips_ne _ (fun b hb => (hdm b hb).1)))]
  have hla : lineA postL0 = (postS, [47, 112], true) := by decide +kernel
  have hl1 : lineP [] postL1 = some [(ctS, formS)] := by decide +kernel
  have hl2 : lineP [(ctS, formS)] (postL2 ++ D) = some [(ctS, formS), (clS, D)] := by
    have e : postL2 ++ D = postL2.take 14 ++ ([58] ++ (32 :: D)) := rfl
    have c := cut_skips (sep := [58]) (by simp) (postL2.take 14) (32 :: D) (by decide +kernel)
    have hm : madeP (rngC 32 126) (32 :: D) = true := by
      unfold madeP
      rw [Bool.and_eq_true, List.all_eq_true]
      refine ⟨fun b hb => ?_, by simp⟩
      rcases List.mem_cons.1 hb with rfl | hb
      · decide
      · exact (hdm b hb).2.2
    have hb : lineBad (postL2 ++ D) = false := by
      unfold lineBad
      rw [e, c]
      simp only [hm]
      rw [show madeP hdC (postL2.take 14) = true by decide +kernel]
      simp
    have hn : nameP (postL2 ++ D) = clS := by
      unfold nameP
      rw [e, c]
      show Lib.toLowerA (postL2.take 14) = clS
      decide +kernel
    unfold lineP
    rw [hb, hn, if_neg (by simp), if_pos (by decide +kernel), e, c]
    simp only [hd3]
    rfl
  have hh : headP [] [postL1, postL2 ++ D] = some [(ctS, formS), (clS, D)] := by
    simp only [headP, hl1, hl2]
  unfold readP
  rw [if_neg (by omega), hc]
  unfold readH
  rw [hpc]
  simp only [List.tail_cons, List.headD_cons, hla, hh]
  have hln : lengthP [(ctS, formS), (clS, D)] q = true := by
    unfold lengthP
    rw [show aget [(ctS, formS), (clS, D)] clS = some D by simp only [aget]; rw [if_neg (by decide)]; simp]
    simp only [hd1]
    simp
  rw [hln, if_neg (by decide), if_neg (by decide)]
  have hct : aget [(ctS, formS), (clS, D)] ctS = some formS := by simp [aget]
  unfold readB
  rw [show decP false (Lib.cut [47, 112] [63]).1 = some [47, 112] by decide +kernel, show paramsL (piecesL (Lib.cut [47, 112] [63]).2.1 [38]) = some [] by decide +kernel]
  simp only [hct, hp]
  rw [show textP [47, 112] [] = true by decide +kernel, if_neg (by simp), if_pos (by decide +kernel)]
  have htx : textP [] ls = true := by unfold textP; rw [hv]; decide +kernel
  rw [htx, if_neg (by simp)]
  rfl
end Go.Proofs.YtlaingmhdgpkdaaDoor
