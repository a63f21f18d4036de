/- A class means just the characters that it lists, or all others. -/
import Derived.Test.YtbpkhgehchelhaaDoorRAp
namespace Go.Rx
/-- a range: nothing, or lo-hi -/
def rng : Option (UInt8 × UInt8) → List UInt8
  | none => []
  | some (lo, hi) => [lo, 45, hi]
def rngS : Option (UInt8 × UInt8) → List (Nat × Nat)
  | none => []
  | some (lo, hi) => [(lo.toNat, hi.toNat)]
def spanS (s : List UInt8) (r : Option (UInt8 × UInt8)) : List (Nat × Nat) := s.map (fun b => (b.toNat, b.toNat)) ++ rngS r
def letter (b : UInt8) : Prop := 97 ≤ b.toNat ∧ b.toNat ≤ 122
theorem letter_ne {b : UInt8} (h : letter b) {c : UInt8} (hc : c.toNat < 97) : b ≠ c := by
  rintro rfl
  have := h.1
  omega
structure RngOk (r : Option (UInt8 × UInt8)) : Prop where
  ok : ∀ lo hi, r = some (lo, hi) → letter lo ∧ letter hi ∧ lo.toNat ≤ hi.toNat
theorem one_letter {pre post : List UInt8} {b : UInt8} (hb : letter b) {p : Nat} (hp : p = pre.length) : one (pre ++ b :: post) p = .ok (([(b.toNat, b.toNat)], true), p + 1) := by
  subst hp
  have h0 : (pre ++ b :: post).getD pre.length 0 = b := by have := getD_right pre (b :: post) 0; rwa [Nat.add_zero] at this
  have hd : dec (pre ++ b :: post) pre.length = (b.toNat, 1) := by rw [dec_ascii (by rw [h0]; have := hb.2; omega), h0]
  unfold one
  rw [isB_at rfl, decide_eq_false (letter_ne hb (by decide)), if_neg (by simp), if_pos (by simp), hd]
theorem isB_next {pre post : List UInt8} {b : UInt8} {p : Nat} (hp : p = pre.length) (x : UInt8) : isB (pre ++ b :: post) (p + 1) x = isB post 0 x := by
  subst hp
  cases post with
  | nil => rw [isB_end (by simp), isB_end (by simp)]
  | cons c post =>
    have e : pre ++ b :: c :: post = (pre ++ [b]) ++ c :: post := by simp
    rw [e, isB_at (by simp), show isB (c :: post) 0 x = decide (c = x) from isB_at (A := []) rfl c x]
theorem class_run {r : Option (UInt8 × UInt8)} (hr : RngOk r) : ∀ (s : List UInt8), (∀ b ∈ s, letter b) → ∀ (pre : List UInt8) (f : Bool) (acc : List (Nat × Nat)) (p n : Nat), p = pre.length → (f = true → s ≠ []) → s.length + 2 ≤ n →
    classL (pre ++ (s ++ (rng r ++ [93]))) n f p acc = .ok (acc ++ spanS s r, p + s.length + (rng r).length + 1)
  | [], _, pre, f, acc, p, 0, _, _, hn => by omega
  | b :: s, _, pre, f, acc, p, 0, _, _, hn => by simp at hn
  | [], _, pre, f, acc, p, n + 1, hp, hf, hn => by
    have hff : f = false := by
      cases f with
      | false => rfl
      | true => exact absurd rfl (hf rfl)
    subst hff
    rw [List.nil_append]
    rcases r with _ | ⟨lo, hi⟩
    · rw [show rng none = [] from rfl, List.nil_append, classL, isB_at hp]
      simp [spanS, rngS]
    · obtain ⟨h1, h2, h3⟩ := hr.ok lo hi rfl
      have e : pre ++ (rng (some (lo, hi)) ++ [93]) = pre ++ lo :: (45 :: hi :: [93]) := rfl
      have e2 : pre ++ lo :: (45 :: hi :: [93]) = (pre ++ [lo, 45]) ++ hi :: [93] := by simp
      have e3 : pre ++ lo :: (45 :: hi :: [93]) = (pre ++ [lo]) ++ 45 :: (hi :: [93]) := by simp
      have e4 : pre ++ lo :: (45 :: hi :: [93]) = (pre ++ [lo, 45, hi]) ++ 93 :: [] := by simp
      have l2 : (pre ++ [lo, 45] : List UInt8).length = p + 2 := by simp [hp]
      have l3 : (pre ++ [lo] : List UInt8).length = p + 1 := by simp [hp]
      have l4 : (pre ++ [lo, 45, hi] : List UInt8).length = p + 3 := by simp [hp]
      have hm : member (pre ++ lo :: (45 :: hi :: [93])) p false = .ok ([(lo.toNat, hi.toNat)], p + 3) := by
        unfold member
        rw [one_letter h1 hp]
        simp only
        have b45 : isB (pre ++ lo :: (45 :: hi :: [93])) p 45 = false := by rw [isB_at hp]; exact decide_eq_false (letter_ne h1 (by decide))
        have n45 : isB (pre ++ lo :: (45 :: hi :: [93])) (p + 1) 45 = true := by rw [e3, isB_at l3.symm]; rfl
        have n93 : isB (pre ++ lo :: (45 :: hi :: [93])) (p + 1 + 1) 93 = false := by rw [e2, isB_at l2.symm]; exact decide_eq_false (letter_ne h2 (by decide))
        rw [b45, n45, n93]
        simp only [Bool.false_and, Bool.false_eq_true, if_false, Bool.not_false, Bool.true_or, Bool.true_and, if_true]
        unfold last
        have n92 : isB (pre ++ lo :: (45 :: hi :: [93])) (p + 1 + 1) 92 = false := by rw [e2, isB_at l2.symm]; exact decide_eq_false (letter_ne h2 (by decide))
        rw [n92, if_neg (by simp)]
        rw [e2, one_letter h2 l2.symm]
        simp only [Rx.lo, List.getD_cons_zero]
        rw [if_neg (by omega)]
      rw [e, classL, isB_at hp, hm]
      simp only
      rw [if_neg (by simp [letter_ne h1 (c := 93) (by decide)])]
      obtain ⟨n, rfl⟩ : ∃ m, n = m + 1 := ⟨n - 1, by simp at hn; omega⟩
      rw [classL, e4, isB_at l4.symm]
      simp [spanS, rngS, rng]
  | b :: s, hs, pre, f, acc, p, n + 1, hp, hf, hn => by
    have hb := hs b List.mem_cons_self
    have e : pre ++ (b :: s ++ (rng r ++ [93])) = pre ++ b :: (s ++ (rng r ++ [93])) := rfl
    have e2 : pre ++ b :: (s ++ (rng r ++ [93])) = (pre ++ [b]) ++ (s ++ (rng r ++ [93])) := by simp
    have b45 : isB (pre ++ b :: (s ++ (rng r ++ [93]))) p 45 = false := by rw [isB_at hp]; exact decide_eq_false (letter_ne hb (by decide))
    have n45 : isB (pre ++ b :: (s ++ (rng r ++ [93]))) (p + 1) 45 = false := by
      rw [isB_next hp]
      cases s with
      | cons c s => exact (isB_at (A := []) rfl c 45).trans (decide_eq_false (letter_ne (hs c (List.mem_cons_of_mem _ List.mem_cons_self)) (by decide)))
      | nil =>
        rcases r with _ | ⟨lo, hi⟩
        · rfl
        · exact (isB_at (A := []) (B := [45, hi, 93]) rfl lo 45).trans (decide_eq_false (letter_ne (hr.ok lo hi rfl).1 (by decide)))
    have hm : member (pre ++ b :: (s ++ (rng r ++ [93]))) p f = .ok ([(b.toNat, b.toNat)], p + 1) := by
      unfold member
      rw [one_letter hb hp]
      simp only
      rw [b45, n45]
      simp
    rw [e, classL, isB_at hp, hm]
    rw [if_neg (by simp [letter_ne hb (c := 93) (by decide)])]
    simp only
    rw [e2, class_run hr s (fun x hx => hs x (List.mem_cons_of_mem _ hx)) (pre ++ [b]) false _ (p + 1) n (by simp [hp]) (fun h => by cases h) (by simp only [List.length_cons] at hn; omega)]
    simp only [spanS, List.map_cons, List.cons_append, List.append_assoc, List.nil_append, List.length_cons, Except.ok.injEq, Prod.mk.injEq, true_and]
    omega
def classTxt (neg : Bool) (s : List UInt8) (r : Option (UInt8 × UInt8)) : List UInt8 := 91 :: ((if neg then [94] else []) ++ (s ++ (rng r ++ [93])))
def classT (neg : Bool) (s : List UInt8) (r : Option (UInt8 × UInt8)) : T := .seq [.set (spanS s r) neg]
theorem cls_class {s : List UInt8} {r : Option (UInt8 × UInt8)} (hr : RngOk r) (hs : ∀ b ∈ s, letter b) (hne : s ≠ []) (neg : Bool) : cls (classTxt neg s r) 1 = .ok (.set (spanS s r) neg, (classTxt neg s r).length) := by
  have hlen : (classTxt neg s r).length = 1 + (if neg then 1 else 0) + s.length + (rng r).length + 1 := by
    unfold classTxt
    cases neg <;> simp <;> omega
  have hneg : isB (classTxt neg s r) 1 94 = neg := by
    cases neg with
    | true => exact isB_at (A := [91]) (B := s ++ (rng r ++ [93])) rfl 94 94
    | false =>
      match s, hne, hs with
      | b :: s, _, hs => exact (isB_at (A := [91]) (B := s ++ (rng r ++ [93])) rfl b 94).trans (decide_eq_false (letter_ne (hs b List.mem_cons_self) (by decide)))
  unfold cls
  rw [hneg]
  simp only
  cases neg with
  | true =>
    have h := class_run hr s hs [91, 94] true [] 2 ((classTxt true s r).length - 2 + 1) rfl (fun _ => hne) (by rw [hlen]; simp only [if_true] <;> omega)
    rw [if_pos rfl]
    rw [show classTxt true s r = [91, 94] ++ (s ++ (rng r ++ [93])) from rfl] at h ⊢
    rw [h]
    simp only [List.nil_append, Except.ok.injEq, Prod.mk.injEq, true_and]
    rw [show ([91, 94] ++ (s ++ (rng r ++ [93])) : List UInt8) = classTxt true s r from rfl, hlen]
    simp only [if_true] <;> omega
  | false =>
    have h := class_run hr s hs [91] true [] 1 ((classTxt false s r).length - 1 + 1) rfl (fun _ => hne) (by rw [hlen]; simp only [Bool.false_eq_true, if_false] <;> omega)
    rw [if_neg (by simp)]
    rw [show classTxt false s r = [91] ++ (s ++ (rng r ++ [93])) from rfl] at h ⊢
    rw [h]
    simp only [List.nil_append, Except.ok.injEq, Prod.mk.injEq, true_and]
    rw [show ([91] ++ (s ++ (rng r ++ [93])) : List UInt8) = classTxt false s r from rfl, hlen]
    simp only [Bool.false_eq_true, if_false] <;> omega
theorem read_class {s : List UInt8} {r : Option (UInt8 × UInt8)} (hr : RngOk r) (hs : ∀ b ∈ s, letter b) (hne : s ≠ []) (neg : Bool) : readP (classTxt neg s r) = .ok (classT neg s r, 0) := by
  have hc := cls_class hr hs hne neg
  have h0 : (classTxt neg s r).getD 0 0 = 91 := rfl
  have hd : dec (classTxt neg s r) 0 = (91, 1) := by rw [dec_ascii (by rw [h0]; decide), h0]; rfl
  have hlt : 0 < (classTxt neg s r).length := by simp [classTxt]
  have hth : Ps (classTxt neg s r) .thing 0 0 (.set (spanS s r) neg) (classTxt neg s r).length 0 := by
    refine ⟨1, ?_⟩
    rw [parse_thing, if_pos hlt, hd]
    simp only [Nat.reduceEqDiff, if_false, if_true, Nat.zero_add]
    rw [hc]
  exact readP_iff.2 (Ps.alt (Nat.zero_le _) (Ps.seq (Ps.seqOn hlt (isB_at (A := []) rfl 91 124) (isB_at (A := []) rfl 91 41) (hth.rep0 (.inr (rept_none (.inl rfl)))) (Ps.seqEnd (.inl rfl)))) (Ps.altNo (isB_end (Nat.le_refl _) _)))
theorem comp_class {s : List UInt8} {r : Option (UInt8 × UInt8)} (hr : RngOk r) (hs : ∀ b ∈ s, letter b) (hne : s ≠ []) (hl : s.length ≤ 12) (neg : Bool) : comp (classTxt neg s r) = .ok (classT neg s r, 0) := by
  have hrl : (rng r).length ≤ 3 := by rcases r with _ | ⟨lo, hi⟩ <;> simp [rng]
  have hlen : (classTxt neg s r).length ≤ 20 := by unfold classTxt; cases neg <;> simp <;> omega
  unfold comp
  rw [if_neg (by omega), read_class hr hs hne neg]
  rfl
theorem hasL_app : ∀ (a b : List (Nat × Nat)) (c : Nat), hasL (a ++ b) c = (hasL a c || hasL b c)
  | [], b, c => by simp [hasL]
  | x :: a, b, c => by simp [hasL, hasL_app a b c, Bool.or_assoc]
theorem hasL_map : ∀ (s : List UInt8) (c : Nat), hasL (s.map fun b => (b.toNat, b.toNat)) c = true ↔ ∃ b ∈ s, b.toNat = c
  | [], c => by simp [hasL]
  | x :: s, c => by
    rw [List.map_cons, hasL, Bool.or_eq_true, hasL_map s c]
    simp only [Bool.and_eq_true, decide_eq_true_eq, List.mem_cons, exists_eq_or_imp]
    refine or_congr ⟨fun h => by omega, fun h => by omega⟩ Iff.rfl
/-- is a text one of the characters listed? -/
def mem1 (s : List UInt8) (r : Option (UInt8 × UInt8)) (x : List UInt8) : Bool := s.any (fun b => x = [b]) || (match r with | none => false | some (lo, hi) => decide (x.length = 1) && decide (lo.toNat ≤ (x.getD 0 0).toNat) && decide ((x.getD 0 0).toNat ≤ hi.toNat))
def one1' (x : List UInt8) : Bool := decide (0 < x.length) && decide ((dec x 0).2 = x.length)
theorem dec_one {b : UInt8} (hb : b.toNat < 128) : dec [b] 0 = (b.toNat, 1) := by rw [dec_ascii (by simpa using hb)]; rfl
theorem span_mem {s : List UInt8} {r : Option (UInt8 × UInt8)} (hr : RngOk r) (hs : ∀ b ∈ s, letter b) {x : List UInt8} (hx : one1' x = true) : hasL (spanS s r) (dec x 0).1 = mem1 s r x := by
  unfold one1' at hx
  simp only [Bool.and_eq_true, decide_eq_true_eq] at hx
  obtain ⟨h1, h2⟩ := hx
  have hsm : (dec x 0).1 < 128 → ∃ b : UInt8, x = [b] ∧ b.toNat = (dec x 0).1 := by
    intro h
    have h3 := dec_small h
    have h4 : dec x 0 = ((x.getD 0 0).toNat, 1) := dec_ascii (by omega)
    rw [h4] at h2
    match x, h2 with
    | [b], _ => exact ⟨b, rfl, by rw [← h3]; rfl⟩
  have hrg : ∀ c, hasL (rngS r) c = (match r with | none => false | some (lo, hi) => decide (lo.toNat ≤ c) && decide (c ≤ hi.toNat)) := by
    intro c
    rcases r with _ | ⟨lo, hi⟩
    · rfl
    · simp [rngS, hasL]
  unfold spanS mem1
  rw [hasL_app, hrg]
  rw [Bool.eq_iff_iff, Bool.or_eq_true, Bool.or_eq_true, hasL_map, List.any_eq_true]
  refine or_congr ?_ ?_
  · constructor
    · rintro ⟨b, hb, he⟩
      have hl := hs b hb
      obtain ⟨b', rfl, hb'⟩ := hsm (by have := hl.2; omega)
      exact ⟨b, hb, by rw [decide_eq_true_eq, UInt8.toNat_inj.1 (hb'.trans he.symm)]⟩
    · rintro ⟨b, hb, he⟩
      have he := of_decide_eq_true he
      subst he
      have hl := hs b hb
      exact ⟨b, hb, by rw [dec_one (by have := hl.2; omega)]⟩
  · rcases r with _ | ⟨lo, hi⟩
    · simp
    · obtain ⟨g1, g2, g3⟩ := hr.ok lo hi rfl
      simp only [Bool.and_eq_true, decide_eq_true_eq]
      constructor
      · rintro ⟨k1, k2⟩
        obtain ⟨b', rfl, hb'⟩ := hsm (by have := g2.2; omega)
        have : ([b'] : List UInt8).getD 0 0 = b' := rfl
        rw [this]
        exact ⟨⟨rfl, by omega⟩, by omega⟩
      · rintro ⟨⟨k0, k1⟩, k2⟩
        match x, k0 with
        | [b], _ =>
          have e : ([b] : List UInt8).getD 0 0 = b := rfl
          rw [e] at k1 k2
          rw [dec_one (by have := g2.2; omega)]
          exact ⟨k1, k2⟩
theorem mem_one {s : List UInt8} {r : Option (UInt8 × UInt8)} (hr : RngOk r) (hs : ∀ b ∈ s, letter b) {x : List UInt8} (h : mem1 s r x = true) : one1' x = true := by
  have : ∃ b : UInt8, x = [b] ∧ b.toNat < 128 := by
    unfold mem1 at h
    rw [Bool.or_eq_true, List.any_eq_true] at h
    rcases h with ⟨b, hb, he⟩ | h
    · have hl := hs b hb
      exact ⟨b, of_decide_eq_true he, by have := hl.2; omega⟩
    · rcases r with _ | ⟨lo, hi⟩
      · simp at h
      · obtain ⟨g1, g2, g3⟩ := hr.ok lo hi rfl
        simp only [Bool.and_eq_true, decide_eq_true_eq] at h
        obtain ⟨⟨k0, k1⟩, k2⟩ := h
        match x, k0 with
        | [b], _ =>
          have e : ([b] : List UInt8).getD 0 0 = b := rfl
          rw [e] at k2
          exact ⟨b, rfl, by have := g2.2; omega⟩
  obtain ⟨b, rfl, hb⟩ := this
  unfold one1'
  rw [dec_one hb]; rfl
/-- P4: just what is listed, or all other characters -/
theorem law_class {s : List UInt8} {r : Option (UInt8 × UInt8)} (hr : RngOk r) (hs : ∀ b ∈ s, letter b) (hne : s ≠ []) (x : List UInt8) : mt (classT false s r) 0 x = mem1 s r x ∧ mt (classT true s r) 0 x = (one1' x && !mem1 s r x) := by
  have hden : ∀ neg, mt (classT neg s r) 0 x = true ↔ one1' x = true ∧ has (spanS s r) neg (dec x 0).1 = true := by
    intro neg
    rw [mt_iff (read_class hr hs hne neg)]
    unfold classT one1'
    simp only [den, denL, Bool.and_eq_true, decide_eq_true_eq]
    constructor
    · rintro ⟨m, ⟨h1, h2, h3⟩, rfl⟩; exact ⟨⟨h1, by omega⟩, h2⟩
    · rintro ⟨⟨h1, h2⟩, h3⟩; exact ⟨_, ⟨h1, h3, by omega⟩, rfl⟩
  constructor
  · rw [Bool.eq_iff_iff, hden]
    constructor
    · rintro ⟨h1, h2⟩
      rw [← span_mem hr hs h1]
      unfold has at h2
      split at h2
      · assumption
      · cases h2
    · intro h
      have h1 := mem_one hr hs h
      refine ⟨h1, ?_⟩
      unfold has
      rw [span_mem hr hs h1, h]; rfl
  · rw [Bool.eq_iff_iff, hden, Bool.and_eq_true]
    refine and_congr_right fun h1 => ?_
    unfold has
    rw [span_mem hr hs h1]
    cases mem1 s r x <;> simp
def rngM (r : Option (UInt8 × UInt8)) (x : List UInt8) : Bool := match r with | none => false | some (lo, hi) => decide (x.length = 1) && decide (lo.toNat ≤ (x.getD 0 0).toNat) && decide ((x.getD 0 0).toNat ≤ hi.toNat)
theorem mem1_eq (s : List UInt8) (r : Option (UInt8 × UInt8)) (x : List UInt8) : mem1 s r x = ((s.any fun b => x = [b]) || rngM r x) := rfl
end Go.Rx
