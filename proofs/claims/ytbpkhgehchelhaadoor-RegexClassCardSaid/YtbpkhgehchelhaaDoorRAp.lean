/- Characters well written, and a text quoted. -/
import Derived.Test.YtbpkhgehchelhaaDoorGR1
namespace Go.Rx

theorem decodeN_ext {n n' a b c d b' c' d' : Nat} (hk : (Lib.decodeN n a b c d).2 = n) (hv : ¬ Lib.decodeN n a b c d = (65533, 1)) (h : n ≤ n') (hb : 2 ≤ n → b' = b) (hc : 3 ≤ n → c' = c) (hd : 4 ≤ n → d' = d) : Lib.decodeN n' a b' c' d' = Lib.decodeN n a b c d := by
  have h4 := (decodeN_2 n a b c d).2.2.1
  have h1 := (decodeN_2 n a b c d).1
  unfold Lib.decodeN at hk hv ⊢
  by_cases g1 : a < 128
  · rw [if_pos g1, if_pos g1]
  rw [if_neg g1] at hk hv ⊢
  rw [if_neg g1]
  by_cases g2 : a / 32 = 6 ∧ 1 < n ∧ b / 64 = 2
  · rw [if_pos g2] at hk hv ⊢
    by_cases g3 : a % 32 * 64 + b % 64 ≥ 128
    · have := hb (by omega); subst this
      rw [if_pos (show a / 32 = 6 ∧ 1 < n' ∧ b' / 64 = 2 by omega)]
    · rw [if_neg g3] at hv; exact absurd rfl hv
  rw [if_neg g2] at hk hv ⊢
  by_cases g4 : a / 16 = 14 ∧ (1 < n ∧ b / 64 = 2) ∧ 2 < n ∧ c / 64 = 2
  · rw [if_pos g4] at hk hv ⊢
    have := hb (by omega); subst this
    have := hc (by omega); subst this
    rw [if_neg (show ¬ (a / 32 = 6 ∧ 1 < n' ∧ b' / 64 = 2) by omega), if_pos (show a / 16 = 14 ∧ (1 < n' ∧ b' / 64 = 2) ∧ 2 < n' ∧ c' / 64 = 2 by omega)]
  rw [if_neg g4] at hk hv ⊢
  by_cases g5 : a / 8 = 30 ∧ (1 < n ∧ b / 64 = 2) ∧ (2 < n ∧ c / 64 = 2) ∧ 3 < n ∧ d / 64 = 2
  · rw [if_pos g5] at hk hv ⊢
    have := hb (by omega); subst this
    have := hc (by omega); subst this
    have := hd (by omega); subst this
    rw [if_neg (show ¬ (a / 32 = 6 ∧ 1 < n' ∧ b' / 64 = 2) by omega), if_neg (show ¬ (a / 16 = 14 ∧ (1 < n' ∧ b' / 64 = 2) ∧ 2 < n' ∧ c' / 64 = 2) by omega), if_pos (show a / 8 = 30 ∧ (1 < n' ∧ b' / 64 = 2) ∧ (2 < n' ∧ c' / 64 = 2) ∧ 3 < n' ∧ d' / 64 = 2 by omega)]
  rw [if_neg g5] at hv
  exact absurd rfl hv
theorem decodeN_inj {n n' a b c d a' b' c' d' : Nat} (hv : ¬ Lib.decodeN n a b c d = (65533, 1)) (hv' : ¬ Lib.decodeN n' a' b' c' d' = (65533, 1)) (he : (Lib.decodeN n a b c d).1 = (Lib.decodeN n' a' b' c' d').1) :
    (Lib.decodeN n a b c d).2 = (Lib.decodeN n' a' b' c' d').2 ∧ a = a' ∧ (2 ≤ (Lib.decodeN n a b c d).2 → b = b') ∧ (3 ≤ (Lib.decodeN n a b c d).2 → c = c') ∧ (4 ≤ (Lib.decodeN n a b c d).2 → d = d') := by
  have form : ∀ {n a b c d : Nat}, ¬ Lib.decodeN n a b c d = (65533, 1) →
      (a < 128 ∧ Lib.decodeN n a b c d = (a, 1)) ∨ (a / 32 = 6 ∧ b / 64 = 2 ∧ a % 32 * 64 + b % 64 ≥ 128 ∧ Lib.decodeN n a b c d = (a % 32 * 64 + b % 64, 2)) ∨
      (a / 16 = 14 ∧ b / 64 = 2 ∧ c / 64 = 2 ∧ a % 16 * 4096 + b % 64 * 64 + c % 64 ≥ 2048 ∧ Lib.decodeN n a b c d = (a % 16 * 4096 + b % 64 * 64 + c % 64, 3)) ∨
      (a / 8 = 30 ∧ b / 64 = 2 ∧ c / 64 = 2 ∧ d / 64 = 2 ∧ a % 8 * 262144 + b % 64 * 4096 + c % 64 * 64 + d % 64 ≥ 65536 ∧ Lib.decodeN n a b c d = (a % 8 * 262144 + b % 64 * 4096 + c % 64 * 64 + d % 64, 4)) := by
    intro n a b c d h
    unfold Lib.decodeN at h ⊢
    by_cases g1 : a < 128
    · left; exact ⟨g1, if_pos g1⟩
    rw [if_neg g1] at h ⊢
    by_cases g2 : a / 32 = 6 ∧ 1 < n ∧ b / 64 = 2
    · rw [if_pos g2] at h ⊢
      by_cases g3 : a % 32 * 64 + b % 64 ≥ 128
      · right; left; rw [if_pos g3]; exact ⟨g2.1, g2.2.2, g3, rfl⟩
      · rw [if_neg g3] at h; exact absurd rfl h
    rw [if_neg g2] at h ⊢
    by_cases g4 : a / 16 = 14 ∧ (1 < n ∧ b / 64 = 2) ∧ 2 < n ∧ c / 64 = 2
    · rw [if_pos g4] at h ⊢
      split at h
      · rename_i g5
        right; right; left
        rw [if_pos g5]; exact ⟨g4.1, g4.2.1.2, g4.2.2.2, g5.1, rfl⟩
      · exact absurd rfl h
    rw [if_neg g4] at h ⊢
    by_cases g6 : a / 8 = 30 ∧ (1 < n ∧ b / 64 = 2) ∧ (2 < n ∧ c / 64 = 2) ∧ 3 < n ∧ d / 64 = 2
    · rw [if_pos g6] at h ⊢
      split at h
      · rename_i g7
        right; right; right
        rw [if_pos g7]; exact ⟨g6.1, g6.2.1.2, g6.2.2.1.2, g6.2.2.2.2, g7.1, rfl⟩
      · exact absurd rfl h
    rw [if_neg g6] at h
    exact absurd rfl h
  rcases form hv with ⟨h1, e⟩ | ⟨h1, h2, h3, e⟩ | ⟨h1, h2, h3, h4, e⟩ | ⟨h1, h2, h3, h4, h5, e⟩ <;>
  rcases form hv' with ⟨k1, e'⟩ | ⟨k1, k2, k3, e'⟩ | ⟨k1, k2, k3, k4, e'⟩ | ⟨k1, k2, k3, k4, k5, e'⟩ <;>
  rw [e, e'] at he ⊢ <;> simp only at he ⊢ <;> first | (exfalso; omega) | exact ⟨trivial, by omega, fun _ => by omega, fun _ => by omega, fun _ => by omega⟩ | exact ⟨rfl, by omega, fun _ => by omega, fun _ => by omega, fun _ => by omega⟩

/-- bytes c are character r, well written -/
structure Ch (c : List UInt8) (r : Nat) : Prop where
  pos : 0 < c.length
  cd : Rx.dec c 0 = (r, c.length)
  ok : ¬ Rx.dec c 0 = (65533, 1)
inductive Chs : List UInt8 → List Nat → Prop where
  | nil : Chs [] []
  | cons {c rest : List UInt8} {r : Nat} {rs : List Nat} (h : Ch c r) (t : Chs rest rs) : Chs (c ++ rest) (r :: rs)
theorem getD_app2 {A c B : List UInt8} {k : Nat} (hk : k < c.length) : (A ++ (c ++ B)).getD (A.length + k) 0 = c.getD k 0 := by
  rw [getD_right, getD_left hk]
theorem Ch.at_ {c : List UInt8} {r : Nat} (h : Ch c r) (pre post : List UInt8) {p : Nat} (hp : p = pre.length) : Rx.dec (pre ++ (c ++ post)) p = (r, c.length) := by
  subst hp
  have hpos := h.pos
  have hd := h.cd
  have ho := h.ok
  rw [← h.cd]
  have g0 : (pre ++ (c ++ post)).getD pre.length 0 = c.getD 0 0 := by have := getD_app2 (A := pre) (B := post) hpos; rwa [Nat.add_zero] at this
  have gk : ∀ k, k < c.length → (pre ++ (c ++ post)).getD (pre.length + k) 0 = c.getD k 0 := fun k hk => getD_app2 hk
  unfold Rx.dec at hd ho ⊢
  rw [g0]
  rw [Nat.sub_zero, Nat.zero_add, Nat.zero_add, Nat.zero_add] at hd ho ⊢
  have hl : (pre ++ (c ++ post)).length - pre.length = c.length + post.length := by simp only [List.length_append]; omega
  rw [hl]
  exact decodeN_ext (by rw [hd]) ho (by omega) (fun k => by rw [gk 1 (by omega)]) (fun k => by rw [gk 2 (by omega)]) (fun k => by rw [gk 3 (by omega)])
theorem list_ext {c c' : List UInt8} (hl : c.length = c'.length) (h : ∀ k, k < c.length → c.getD k 0 = c'.getD k 0) : c = c' := by
  refine List.ext_getElem hl fun i h1 h2 => ?_
  have := h i h1
  rw [List.getD_eq_getElem?_getD, List.getD_eq_getElem?_getD, List.getElem?_eq_getElem h1, List.getElem?_eq_getElem h2] at this
  exact this
theorem Ch.inj {c c' : List UInt8} {r : Nat} (h : Ch c r) (h' : Ch c' r) : c = c' := by
  have hd := h.cd
  have ho := h.ok
  have hd' := h'.cd
  have ho' := h'.ok
  unfold Rx.dec at hd ho hd' ho'
  rw [Nat.sub_zero, Nat.zero_add, Nat.zero_add, Nat.zero_add] at hd ho hd' ho'
  obtain ⟨k1, k2, k3, k4, k5⟩ := decodeN_inj ho ho' (by rw [hd, hd'])
  rw [hd] at k1 k3 k4 k5
  rw [hd'] at k1
  simp only at k1 k3 k4 k5
  have h4 : c.length ≤ 4 := by
    have := (decodeN_2 c.length (c.getD 0 0).toNat (c.getD 1 0).toNat (c.getD 2 0).toNat (c.getD 3 0).toNat).2.2.1
    rw [hd] at this; exact this
  refine list_ext k1 fun k hk => UInt8.toNat_inj.1 ?_
  rcases (show k = 0 ∨ k = 1 ∨ k = 2 ∨ k = 3 by omega) with rfl | rfl | rfl | rfl
  · exact k2
  · exact k3 (by omega)
  · exact k4 (by omega)
  · exact k5 (by omega)
/-- small characters are one byte, all others are bytes of 128 and more -/
theorem Ch.small {c : List UInt8} {r : Nat} (h : Ch c r) : (r < 128 ∧ ∃ b : UInt8, c = [b] ∧ b.toNat = r) ∨ (128 ≤ r ∧ ∀ b ∈ c, 128 ≤ b.toNat) := by
  have hd := h.cd
  have ho := h.ok
  have hpos := h.pos
  unfold Rx.dec at hd ho
  rw [Nat.sub_zero, Nat.zero_add, Nat.zero_add, Nat.zero_add] at hd ho
  have hall : ∀ (P : UInt8 → Prop), c.length ≤ 4 → (∀ k, k < c.length → P (c.getD k 0)) → ∀ b ∈ c, P b := by
    intro P _ hk b hb
    obtain ⟨i, hi, rfl⟩ := List.getElem_of_mem hb
    have := hk i hi
    rwa [List.getD_eq_getElem?_getD, List.getElem?_eq_getElem hi] at this
  unfold Lib.decodeN at hd ho
  by_cases g1 : (c.getD 0 0).toNat < 128
  · rw [if_pos g1] at hd
    simp only [Prod.mk.injEq] at hd
    left
    refine ⟨by omega, c.getD 0 0, ?_, hd.1⟩
    have : c.length = 1 := hd.2.symm
    match c, this with
    | [b], _ => rfl
  rw [if_neg g1] at hd ho
  right
  by_cases g2 : (c.getD 0 0).toNat / 32 = 6 ∧ 1 < c.length ∧ (c.getD 1 0).toNat / 64 = 2
  · rw [if_pos g2] at hd ho
    split at hd
    · simp only [Prod.mk.injEq] at hd
      refine ⟨by omega, hall _ (by omega) fun k hk => ?_⟩
      rcases (show k = 0 ∨ k = 1 by omega) with rfl | rfl <;> omega
    · rename_i g3; rw [if_neg g3] at ho; exact absurd rfl ho
  rw [if_neg g2] at hd ho
  by_cases g4 : (c.getD 0 0).toNat / 16 = 14 ∧ (1 < c.length ∧ (c.getD 1 0).toNat / 64 = 2) ∧ 2 < c.length ∧ (c.getD 2 0).toNat / 64 = 2
  · rw [if_pos g4] at hd ho
    split at hd
    · simp only [Prod.mk.injEq] at hd
      refine ⟨by omega, hall _ (by omega) fun k hk => ?_⟩
      rcases (show k = 0 ∨ k = 1 ∨ k = 2 by omega) with rfl | rfl | rfl <;> omega
    · rename_i g3; rw [if_neg g3] at ho; exact absurd rfl ho
  rw [if_neg g4] at hd ho
  by_cases g5 : (c.getD 0 0).toNat / 8 = 30 ∧ (1 < c.length ∧ (c.getD 1 0).toNat / 64 = 2) ∧ (2 < c.length ∧ (c.getD 2 0).toNat / 64 = 2) ∧ 3 < c.length ∧ (c.getD 3 0).toNat / 64 = 2
  · rw [if_pos g5] at hd ho
    split at hd
    · simp only [Prod.mk.injEq] at hd
      refine ⟨by omega, hall _ (by omega) fun k hk => ?_⟩
      rcases (show k = 0 ∨ k = 1 ∨ k = 2 ∨ k = 3 by omega) with rfl | rfl | rfl | rfl <;> omega
    · rename_i g3; rw [if_neg g3] at ho; exact absurd rfl ho
  rw [if_neg g5] at ho
  exact absurd rfl ho

/-- a byte quoted -/
def quoteB (b : UInt8) : List UInt8 := if b = 10 then [92, 110] else if b = 9 then [92, 116] else if b = 13 then [92, 114] else if marks.contains b.toNat then [92, b] else [b]
def quote (s : List UInt8) : List UInt8 := s.flatMap quoteB
theorem quote_len : ∀ s : List UInt8, (quote s).length ≤ 2 * s.length
  | [] => by simp [quote]
  | b :: s => by
    have := quote_len s
    have hb : (quoteB b).length ≤ 2 := by unfold quoteB; split; · simp
                                          split; · simp
                                          split; · simp
                                          split <;> simp
    unfold quote at this ⊢
    rw [List.flatMap_cons, List.length_append, List.length_cons]
    omega
theorem quote_app (a b : List UInt8) : quote (a ++ b) = quote a ++ quote b := by unfold quote; rw [List.flatMap_append]
/-- the first byte of what is quoted -/
theorem quoteB_head (b : UInt8) : ∃ x l, quoteB b = x :: l ∧ x ≠ 42 ∧ x ≠ 43 ∧ x ≠ 63 ∧ x ≠ 123 ∧ x ≠ 124 ∧ x ≠ 41 := by
  by_cases h : b = 10 ∨ b = 9 ∨ b = 13 ∨ marks.contains b.toNat = true
  · refine ⟨92, (quoteB b).tail, ?_, by decide, by decide, by decide, by decide, by decide, by decide⟩
    unfold quoteB
    split; · rfl
    split; · rfl
    split; · rfl
    split
    · rfl
    · rename_i h1 h2 h3 h4
      rcases h with h | h | h | h
      · exact absurd h h1
      · exact absurd h h2
      · exact absurd h h3
      · exact absurd h h4
  · have hn : ¬ b = 10 ∧ ¬ b = 9 ∧ ¬ b = 13 ∧ ¬ marks.contains b.toNat = true := ⟨fun k => h (.inl k), fun k => h (.inr (.inl k)), fun k => h (.inr (.inr (.inl k))), fun k => h (.inr (.inr (.inr k)))⟩
    refine ⟨b, [], ?_, ?_, ?_, ?_, ?_, ?_, ?_⟩
    · unfold quoteB; rw [if_neg hn.1, if_neg hn.2.1, if_neg hn.2.2.1, if_neg hn.2.2.2]
    all_goals (rintro rfl; exact hn.2.2.2 (by decide))
/-- one byte quoted is read as itself -/
theorem Ps.quoted {pre post : List UInt8} {b : UInt8} (hb : b.toNat < 128) {p g : Nat} (hp : p = pre.length) : Ps (pre ++ (quoteB b ++ post)) .thing p g (.set [(b.toNat, b.toNat)] false) (p + (quoteB b).length) g := by
  subst hp
  refine ⟨1, ?_⟩
  have hq : ∀ (x : UInt8) (l : List Nat × Bool), quoteB b = [92, x] → x.toNat < 128 → esc x.toNat = some ([(b.toNat, b.toNat)], false) → parse (pre ++ (quoteB b ++ post)) 1 .thing pre.length g = .ok (.set [(b.toNat, b.toNat)] false, pre.length + (quoteB b).length, g) := by
    intro x _ hq hx he
    rw [hq]
    have h0 : (pre ++ ([92, x] ++ post)).getD pre.length 0 = 92 := by have := getD_right pre ([92, x] ++ post) 0; rwa [Nat.add_zero] at this
    have h1 : (pre ++ ([92, x] ++ post)).getD (pre.length + 1) 0 = x := getD_right pre ([92, x] ++ post) 1
    have hd0 : dec (pre ++ ([92, x] ++ post)) pre.length = (92, 1) := by rw [dec_ascii (by rw [h0]; decide), h0]; rfl
    have hd1 : dec (pre ++ ([92, x] ++ post)) (pre.length + 1) = (x.toNat, 1) := by rw [dec_ascii (by rw [h1]; exact hx), h1]
    rw [parse_thing, if_pos (by simp), hd0]
    simp only [Nat.reduceEqDiff, if_false, if_true]
    unfold escape
    rw [if_pos (by simp), hd1]
    simp only [he]
    rfl
  by_cases h1 : b = 10
  · subst h1; exact hq 110 ([], false) rfl (by decide) (by decide)
  by_cases h2 : b = 9
  · subst h2; exact hq 116 ([], false) rfl (by decide) (by decide)
  by_cases h3 : b = 13
  · subst h3; exact hq 114 ([], false) rfl (by decide) (by decide)
  by_cases h4 : marks.contains b.toNat = true
  · refine hq b ([], false) (by unfold quoteB; rw [if_neg h1, if_neg h2, if_neg h3, if_pos h4]) hb ?_
    have hm : b.toNat ∈ marks := by simpa using h4
    unfold marks at hm
    simp only [List.mem_cons, List.not_mem_nil, or_false] at hm
    rcases hm with e | e | e | e | e | e | e | e | e | e | e | e | e | e <;> rw [e] <;> decide
  · have hqe : quoteB b = [b] := by unfold quoteB; rw [if_neg h1, if_neg h2, if_neg h3, if_neg h4]
    rw [hqe]
    have h0 : (pre ++ ([b] ++ post)).getD pre.length 0 = b := by have := getD_right pre ([b] ++ post) 0; rwa [Nat.add_zero] at this
    have hd0 : dec (pre ++ ([b] ++ post)) pre.length = (b.toNat, 1) := by rw [dec_ascii (by rw [h0]; exact hb), h0]
    have hne : ∀ k : Nat, k ∈ marks → ¬ b.toNat = k := fun k hk e => h4 (by rw [e]; simpa using hk)
    rw [parse_thing, if_pos (by simp), hd0]
    simp only
    rw [if_neg (hne 46 (by decide)), if_neg (hne 94 (by decide)), if_neg (hne 36 (by decide)), if_neg (hne 91 (by decide)), if_neg (hne 40 (by decide)), if_neg (hne 92 (by decide)), if_neg h4]
    rfl
theorem quote_big {c : List UInt8} (h : ∀ b ∈ c, 128 ≤ b.toNat) : quote c = c := by
  induction c with
  | nil => rfl
  | cons b c ih =>
    have hb := h b List.mem_cons_self
    have : quoteB b = [b] := by
      unfold quoteB
      rw [if_neg (fun e => by subst e; revert hb; decide), if_neg (fun e => by subst e; revert hb; decide), if_neg (fun e => by subst e; revert hb; decide), if_neg]
      intro hm
      have hm : b.toNat ∈ marks := by simpa using hm
      unfold marks at hm
      simp only [List.mem_cons, List.not_mem_nil, or_false] at hm
      omega
    unfold quote at ih ⊢
    rw [List.flatMap_cons, this, ih fun x hx => h x (List.mem_cons_of_mem _ hx)]
    rfl
/-- a character quoted is read as itself -/
theorem Ps.char {c : List UInt8} {r : Nat} (h : Ch c r) (pre post : List UInt8) {p g : Nat} (hp : p = pre.length) : Ps (pre ++ (quote c ++ post)) .thing p g (.set [(r, r)] false) (p + (quote c).length) g := by
  rcases h.small with ⟨h1, b, rfl, rfl⟩ | ⟨h1, h2⟩
  · have e : quote [b] = quoteB b := by unfold quote; simp
    rw [e]
    exact Ps.quoted h1 hp
  · rw [quote_big h2]
    have hd := h.at_ pre post hp
    have hpos := h.pos
    subst hp
    refine ⟨1, ?_⟩
    rw [parse_thing, if_pos (by simp; omega), hd]
    simp only
    have hm : ¬ marks.contains r = true := by
      intro hm
      have hm : r ∈ marks := by simpa using hm
      unfold marks at hm
      simp only [List.mem_cons, List.not_mem_nil, or_false] at hm
      omega
    rw [if_neg (by omega), if_neg (by omega), if_neg (by omega), if_neg (by omega), if_neg (by omega), if_neg (by omega), if_neg hm]
theorem quote_ne {c : List UInt8} {r : Nat} (h : Ch c r) : ∃ x l, quote c = x :: l ∧ x ≠ 42 ∧ x ≠ 43 ∧ x ≠ 63 ∧ x ≠ 123 ∧ x ≠ 124 ∧ x ≠ 41 := by
  match c, h.pos with
  | b :: c, _ =>
    obtain ⟨x, l, h1, h2⟩ := quoteB_head b
    exact ⟨x, l ++ quote c, by unfold quote; rw [List.flatMap_cons, h1]; rfl, h2⟩
def one1 (r : Nat) : T := .set [(r, r)] false
theorem Ps.chars {s : List UInt8} {rs : List Nat} (h : Chs s rs) : ∀ (pre : List UInt8) (acc : List T) (g p : Nat), p = pre.length → Ps (pre ++ quote s) (.seqL acc) p g (if acc ++ rs.map one1 = [] then .emp else .seq (acc ++ rs.map one1)) (pre ++ quote s).length g := by
  induction h with
  | nil =>
    intro pre acc g p hp
    subst hp
    rw [List.map_nil, List.append_nil]
    have e : quote [] = [] := rfl
    rw [e, List.append_nil]
    exact Ps.seqEnd (.inl rfl)
  | @cons c rest r rs hc ht ih =>
    intro pre acc g p hp
    subst hp
    obtain ⟨x, l, hx, h42, h43, h63, h123, h124, h41⟩ := quote_ne hc
    have h1 := Ps.char hc pre (quote rest) (p := pre.length) (g := g) rfl
    have e : pre ++ quote (c ++ rest) = pre ++ (quote c ++ quote rest) := by rw [quote_app]
    have e2 : pre ++ (quote c ++ quote rest) = (pre ++ quote c) ++ quote rest := by rw [List.append_assoc]
    have hl : (pre ++ quote c).length = pre.length + (quote c).length := by rw [List.length_append]
    have h2 := ih (pre ++ quote c) (acc ++ [one1 r]) g (pre.length + (quote c).length) hl.symm
    rw [e]
    have hrn : rept (pre ++ (quote c ++ quote rest)) (pre.length + (quote c).length) = .ok none := by
      rw [e2]
      refine rept_none ?_
      cases ht with
      | nil => left; rw [show quote [] = [] from rfl, List.append_nil]; exact hl.symm
      | @cons c' rest' r' rs' hc' _ =>
        obtain ⟨x', l', hx', k42, k43, k63, k123, -, -⟩ := quote_ne hc'
        right
        rw [quote_app, hx']
        have := getD_right (pre ++ quote c) (x' :: l' ++ quote rest') 0
        rw [Nat.add_zero, hl] at this
        rw [this]
        exact ⟨k42, k43, k63, k123⟩
    have e3 : acc ++ (r :: rs).map one1 = acc ++ [one1 r] ++ rs.map one1 := by simp
    rw [e3]
    rw [e2] at h1 hrn ⊢
    refine Ps.seqOn ?_ ?_ ?_ (h1.rep0 (.inr hrn)) h2
    · rw [List.length_append, hl, hx, List.length_cons]; omega
    · rw [← e2, hx]
      have := isB_at (A := pre) (B := l ++ quote rest) rfl x 124
      rw [List.cons_append, this]; simpa using h124
    · rw [← e2, hx]
      have := isB_at (A := pre) (B := l ++ quote rest) rfl x 41
      rw [List.cons_append, this]; simpa using h41
def tree (rs : List Nat) : T := if rs.map one1 = [] then .emp else .seq (rs.map one1)
theorem read_quote {s : List UInt8} {rs : List Nat} (h : Chs s rs) : readP (quote s) = .ok (tree rs, 0) := by
  have := Ps.chars h [] [] 0 0 rfl
  rw [List.nil_append, List.nil_append] at this
  exact readP_iff.2 (Ps.alt (Nat.zero_le _) this.seq (Ps.altNo (isB_end (Nat.le_refl _) _)))
theorem has_one (r c : Nat) : has [(r, r)] false c = decide (c = r) := by
  unfold has
  simp only [hasL, Bool.or_false, Bool.not_false]
  by_cases h : c = r
  · subst h; simp
  · have : ¬ (r ≤ c ∧ c ≤ r) := by omega
    simp [h]; omega
theorem den_tree (x : List UInt8) (rs : List Nat) : den x (tree rs) = denL x (rs.map one1) := by
  unfold tree
  split
  · rename_i h; rw [h]; funext i j; simp only [den, denL]
  · funext i j; simp only [den]
theorem den_chars {y : List UInt8} {ys : List Nat} (h : Chs y ys) : ∀ (pre : List UInt8) (rs : List Nat), denL (pre ++ y) (rs.map one1) pre.length (pre ++ y).length ↔ ys = rs := by
  induction h with
  | nil =>
    intro pre rs
    rw [List.append_nil]
    cases rs with
    | nil => simp [denL]
    | cons r rs =>
      simp only [List.map_cons, denL, one1, den]
      constructor
      · rintro ⟨m, ⟨h1, _⟩, _⟩; omega
      · intro h; cases h
  | @cons c rest r ys hc ht ih =>
    intro pre rs
    have hd := hc.at_ pre rest rfl
    have hpos := hc.pos
    have hlt : pre.length < (pre ++ (c ++ rest)).length := by simp; omega
    have e2 : pre ++ (c ++ rest) = (pre ++ c) ++ rest := by rw [List.append_assoc]
    have hl : (pre ++ c).length = pre.length + c.length := by rw [List.length_append]
    cases rs with
    | nil =>
      simp only [List.map_nil, denL]
      constructor
      · intro h; omega
      · intro h; cases h
    | cons r' rs =>
      simp only [List.map_cons, denL, one1, den, hd, has_one, decide_eq_true_eq]
      have ih := ih (pre ++ c) rs
      rw [hl, ← e2] at ih
      constructor
      · rintro ⟨m, ⟨_, rfl, rfl⟩, h2⟩
        rw [ih.1 h2]
      · intro h
        cases h
        exact ⟨_, ⟨hlt, rfl, rfl⟩, ih.2 rfl⟩
theorem Chs.inj {x y : List UInt8} {rs : List Nat} (h : Chs x rs) (h' : Chs y rs) : x = y := by
  induction h generalizing y with
  | nil => cases h'; rfl
  | cons hc _ ih => cases h' with | cons hc' ht' => rw [hc.inj hc', ih ht']
/-- P4.5: a quoted text means itself alone -/
theorem law_quote {s : List UInt8} {rs : List Nat} (h : Chs s rs) {x : List UInt8} {xs : List Nat} (hx : Chs x xs) : mt (tree rs) 0 x = decide (x = s) := by
  rw [Bool.eq_iff_iff, mt_iff (read_quote h), den_tree, decide_eq_true_eq]
  have := den_chars hx [] rs
  rw [List.nil_append, List.length_nil] at this
  rw [this]
  constructor
  · rintro rfl; exact hx.inj h
  · rintro rfl
    have h2 := den_chars hx [] rs
    have h3 := den_chars h [] rs
    rw [List.nil_append, List.length_nil] at h2 h3
    exact h2.1 (h3.2 rfl)
theorem tree_size : ∀ rs : List Nat, sizeL (rs.map one1) = rs.length
  | [] => by simp [sizeL]
  | r :: rs => by simp only [List.map_cons, sizeL, one1, sizeT, tree_size rs, List.length_cons]; omega
theorem Chs.len {s : List UInt8} {rs : List Nat} (h : Chs s rs) : rs.length ≤ s.length := by
  induction h with
  | nil => exact Nat.le_refl _
  | cons hc _ ih => have := hc.pos; simp only [List.length_cons, List.length_append]; omega
theorem comp_quote {s : List UInt8} {rs : List Nat} (h : Chs s rs) (hl : s.length ≤ 60) : comp (quote s) = .ok (tree rs, 0) := by
  unfold comp
  have h1 := quote_len s
  have h2 := h.len
  rw [if_neg (by omega), read_quote h]
  simp only
  rw [if_neg]
  unfold tree
  split
  · simp [sizeT]
  · simp only [sizeT, tree_size]; omega
end Go.Rx
