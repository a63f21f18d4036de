/- A quoted text read back: in plain words. -/
import Derived.Test.YtlaingmhdgpkdaaGreatDoorZQw
open Go Go.Vg Go.RowKit Go.Proofs Go.Proofs.YtlaingmhdgpkdaaGreatDoor
namespace Go.Proofs.YtlaingmhdgpkdaaGreatDoor
set_option linter.unusedSimpArgs false

/-- what a quoted text is made of -/
inductive Tok
  | plain (c : UInt8)
  | esc (c : UInt8)
  | nl
  | cr
  | tab
  | sign
  | low (c : UInt8)
/-- as it is written -/
def Tok.wr : Tok → List UInt8
  | .plain c => [c]
  | .esc c => [92, c]
  | .nl => [92, 110]
  | .cr => [92, 114]
  | .tab => [92, 116]
  | .sign => [92, 117, 102, 102, 102, 100]
  | .low c => [92, 117, 48, 48, hexS.getD (c.toNat / 16) 0, hexS.getD (c.toNat % 16) 0]
/-- what it means -/
def Tok.me : Tok → List UInt8
  | .plain c => [c]
  | .esc c => [c]
  | .nl => [10]
  | .cr => [13]
  | .tab => [9]
  | .sign => signU
  | .low c => [c]
def Tok.ok : Tok → Prop
  | .plain c => 32 ≤ c.toNat ∧ c.toNat ≠ 34 ∧ c.toNat ≠ 92
  | .esc c => c = 34 ∨ c = 92
  | .low c => c.toNat < 32
  | _ => True
def tok1 (c : UInt8) : Tok := if c = 34 ∨ c = 92 then .esc c else if c = 10 then .nl else if c = 13 then .cr else if c = 9 then .tab else if c.toNat < 32 then .low c else .plain c
theorem tok1_wr (c : UInt8) : (tok1 c).wr = q1 c := by
  unfold tok1 q1
  repeat' split
  all_goals rfl
theorem tok1_me (c : UInt8) : (tok1 c).me = [c] := by
  unfold tok1
  repeat' split
  all_goals first | rfl | (rename_i h; subst h; rfl)
theorem tok1_ok (c : UInt8) : (tok1 c).ok := by
  unfold tok1
  by_cases h : c = 34 ∨ c = 92
  · rw [if_pos h]; exact h
  · rw [if_neg h]
    repeat' split
    all_goals first | trivial | assumption | skip
    refine ⟨by omega, fun h2 => h (.inl (UInt8.toNat_inj.1 h2)), fun h2 => h (.inr (UInt8.toNat_inj.1 h2))⟩
def pieceT (s : List UInt8) (i : Nat) : List Tok := if u8len s i = 0 then [.sign] else if (s.getD i 0).toNat < 128 then [tok1 (s.getD i 0)] else ((s.drop i).take (u8len s i)).map .plain
def toksF (s : List UInt8) : Nat → Nat → List Tok
  | 0, _ => []
  | m + 1, i => if s.length ≤ i then [] else pieceT s i ++ toksF s m (i + stepQ s i)
theorem plain_wr (l : List UInt8) : (l.map Tok.plain).flatMap Tok.wr = l := by
  induction l with
  | nil => rfl
  | cons a r ih => simp only [List.map_cons, List.flatMap_cons, ih]; rfl
theorem plain_me (l : List UInt8) : (l.map Tok.plain).flatMap Tok.me = l := by
  induction l with
  | nil => rfl
  | cons a r ih => simp only [List.map_cons, List.flatMap_cons, ih]; rfl
theorem pieceT_wr (s : List UInt8) (i : Nat) : (pieceT s i).flatMap Tok.wr = pieceQ s i := by
  unfold pieceT pieceQ
  split
  · rfl
  · split
    · simp [tok1_wr]
    · exact plain_wr _
theorem pieceT_me (s : List UInt8) (i : Nat) (hi : i < s.length) : (pieceT s i).flatMap Tok.me = if u8len s i = 0 then signU else (s.drop i).take (u8len s i) := by
  unfold pieceT
  split
  · simp [Tok.me]
  · split
    · rename_i h
      rw [u8len_asc hi h, drop_at hi]
      simp [tok1_me]
    · exact plain_me _
/-- the bytes of a character of several bytes are no letters of the small kind -/
theorem high_at {s : List UInt8} {i : Nat} (hi : i < s.length) (h : 128 ≤ (s.getD i 0).toNat) : ∀ j, j < u8len s i → 128 ≤ (s.getD (i + j) 0).toNat := by
  intro j hj
  have hN := u8len_N s i hi
  rw [hN] at hj
  match j, hj with
  | 0, _ => exact h
  | 1, hj =>
    unfold u8N at hj
    rw [if_neg (by omega)] at hj
    repeat' split at hj
    all_goals omega
  | 2, hj =>
    unfold u8N at hj
    rw [if_neg (by omega)] at hj
    repeat' split at hj
    all_goals omega
  | 3, hj =>
    unfold u8N at hj
    rw [if_neg (by omega)] at hj
    repeat' split at hj
    all_goals omega
  | n + 4, hj =>
    unfold u8N at hj
    repeat' split at hj
    all_goals omega
theorem pieceT_ok {s : List UInt8} {i : Nat} (hi : i < s.length) : ∀ t ∈ pieceT s i, t.ok := by
  intro t ht
  unfold pieceT at ht
  split at ht
  · simp only [List.mem_cons, List.not_mem_nil, or_false] at ht; subst ht; trivial
  · split at ht
    · simp only [List.mem_cons, List.not_mem_nil, or_false] at ht; subst ht; exact tok1_ok _
    · rename_i h1 h2
      obtain ⟨c, hc, rfl⟩ := List.mem_map.1 ht
      obtain ⟨j, hj, rfl⟩ := List.mem_iff_getElem.1 hc
      have hl := hj
      rw [List.length_take, List.length_drop] at hl
      have := high_at hi (by omega) j (by omega)
      have he : ((s.drop i).take (u8len s i))[j] = s.getD (i + j) 0 := by
        rw [List.getElem_take, List.getElem_drop]; simp [List.getD, show i + j < s.length by omega]
      rw [he]
      exact ⟨by omega, by omega, by omega⟩
theorem toksF_all (s : List UInt8) : ∀ (m i : Nat), i ≤ s.length → (toksF s m i).flatMap Tok.wr = quoteF s m i ∧ (toksF s m i).flatMap Tok.me = cleanF s m i ∧ ∀ t ∈ toksF s m i, t.ok
  | 0, i, _ => by simp [toksF, quoteF, cleanF]
  | m + 1, i, hi => by
    simp only [toksF, quoteF, cleanF]
    by_cases he : s.length ≤ i
    · rw [if_pos he, if_pos he, if_pos he]; simp
    · rw [if_neg he, if_neg he, if_neg he]
      obtain ⟨h1, h2, h3⟩ := toksF_all s m (i + stepQ s i) (stepQ_le (by omega))
      refine ⟨by rw [List.flatMap_append, pieceT_wr, h1], ?_, ?_⟩
      · rw [List.flatMap_append, pieceT_me s i (by omega), h2]
        unfold stepQ
        split <;> rfl
      · intro t ht
        rcases List.mem_append.1 ht with h | h
        · exact pieceT_ok (by omega) t h
        · exact h3 t h
/-- a quoted text's pieces -/
theorem quote_toks (s : List UInt8) : ∃ ts : List Tok, quoteP s = [34] ++ ts.flatMap Tok.wr ++ [34] ∧ ts.flatMap Tok.me = cleanP s ∧ ∀ t ∈ ts, t.ok := by
  obtain ⟨h1, h2, h3⟩ := toksF_all s s.length 0 (by omega)
  exact ⟨toksF s s.length 0, by unfold quoteP; rw [h1], h2, h3⟩
end Go.Proofs.YtlaingmhdgpkdaaGreatDoor
