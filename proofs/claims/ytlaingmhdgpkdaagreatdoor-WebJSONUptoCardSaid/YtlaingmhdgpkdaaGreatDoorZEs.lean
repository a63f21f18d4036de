/- Texts cleaned and escaped: in plain words, and walked. -/
import Derived.Test.YtlaingmhdgpkdaaGreatDoorZUv
import Derived.Test.YtlaingmhdgpkdaaGreatDoorV31
open Go Go.Vg Go.RowKit Go.Proofs Go.Proofs.YtlaingmhdgpkdaaGreatDoor
namespace Go.Proofs.YtlaingmhdgpkdaaGreatDoor
set_option linter.unusedSimpArgs false

/-! ### cleaned -/
def signU : List UInt8 := [239, 191, 189]
def cleanF (s : List UInt8) : Nat → Nat → List UInt8
  | 0, _ => []
  | m + 1, i => if s.length ≤ i then [] else if u8len s i = 0 then signU ++ cleanF s m (i + 1) else (s.drop i).take (u8len s i) ++ cleanF s m (i + u8len s i)
def cleanP (s : List UInt8) : List UInt8 := cleanF s s.length 0
theorem cleanF_fuel (s : List UInt8) : ∀ (m k i : Nat), s.length - i ≤ m → s.length - i ≤ k → cleanF s m i = cleanF s k i := by
  intro m
  induction m with
  | zero =>
    intro k i h _
    cases k with
    | zero => rfl
    | succ k => simp only [cleanF]; rw [if_pos (by omega)]
  | succ m ih =>
    intro k i h h2
    cases k with
    | zero => simp only [cleanF]; rw [if_pos (by omega)]
    | succ k =>
      simp only [cleanF]
      by_cases he : s.length ≤ i
      · rw [if_pos he, if_pos he]
      · rw [if_neg he, if_neg he]
        by_cases hz : u8len s i = 0
        · rw [if_pos hz, if_pos hz, ih k (i + 1) (by omega) (by omega)]
        · rw [if_neg hz, if_neg hz, ih k (i + u8len s i) (by omega) (by omega)]
theorem cleanF_step {s : List UInt8} {i : Nat} (hi : i < s.length) : cleanF s (s.length - i) i = if u8len s i = 0 then signU ++ cleanF s (s.length - (i + 1)) (i + 1) else (s.drop i).take (u8len s i) ++ cleanF s (s.length - (i + u8len s i)) (i + u8len s i) := by
  rw [cleanF_fuel s (s.length - i) ((s.length - i - 1) + 1) i (by omega) (by omega), cleanF, if_neg (by omega)]
  split
  · rw [cleanF_fuel s (s.length - i - 1) (s.length - (i + 1)) (i + 1) (by omega) (by omega)]
  · rw [cleanF_fuel s (s.length - i - 1) (s.length - (i + u8len s i)) (i + u8len s i) (by omega) (by omega)]
theorem cleanF_len (s : List UInt8) : ∀ (m i : Nat), (cleanF s m i).length ≤ 3 * m + s.length - i + (if s.length ≤ i then i - s.length else 0)
  | 0, i => by simp [cleanF]
  | m + 1, i => by
    simp only [cleanF]
    by_cases he : s.length ≤ i
    · rw [if_pos he]; simp
    · rw [if_neg he, if_neg he]
      split
      · have := cleanF_len s m (i + 1)
        rw [List.length_append]
        simp only [signU, List.length_cons, List.length_nil]
        split at this <;> omega
      · have := cleanF_len s m (i + u8len s i)
        have hle := u8len_le s i (by omega)
        rw [List.length_append, List.length_take, List.length_drop]
        split at this <;> omega
theorem cleanP_len (s : List UInt8) : (cleanP s).length ≤ 4 * s.length := by
  have := cleanF_len s s.length 0
  unfold cleanP
  split at this <;> omega

theorem u8N_local {N N' b0 b1 b2 b3 c1 c2 c3 k : Nat} (h : u8N N b0 b1 b2 b3 = k) (hk : k ≠ 0) (hN : k ≤ N') (h1 : 1 < k → c1 = b1) (h2 : 2 < k → c2 = b2) (h3 : 3 < k → c3 = b3) : u8N N' b0 c1 c2 c3 = k := by
  unfold u8N at h ⊢
  by_cases d1 : b0 < 128
  · rw [if_pos d1] at h ⊢; exact h
  · rw [if_neg d1] at h ⊢
    by_cases d2 : b0 / 32 = 6
    · rw [if_pos d2] at h ⊢
      split at h
      · subst h
        rw [h1 (by omega), if_pos ⟨by omega, by omega, by omega⟩]
      · exact absurd h.symm hk
    · rw [if_neg d2] at h ⊢
      by_cases d3 : b0 / 16 = 14
      · rw [if_pos d3] at h ⊢
        split at h
        · rename_i hc
          subst h
          rw [h1 (by omega), h2 (by omega), if_pos ⟨by omega, hc.2⟩]
        · exact absurd h.symm hk
      · rw [if_neg d3] at h ⊢
        by_cases d4 : b0 / 8 = 30
        · rw [if_pos d4] at h ⊢
          split at h
          · rename_i hc
            subst h
            rw [h1 (by omega), h2 (by omega), h3 (by omega), if_pos ⟨by omega, hc.2⟩]
          · exact absurd h.symm hk
        · rw [if_neg d4] at h
          exact absurd h.symm hk
theorem valid_cut {l : List UInt8} {k : Nat} (hl : l ≠ []) (hk : u8N l.length (l.getD 0 0).toNat (l.getD 1 0).toNat (l.getD 2 0).toNat (l.getD 3 0).toNat = k) (h0 : k ≠ 0) : Lib.validD l = Lib.validD (l.drop k) := by
  rw [Lib.validD_step _ hl, Lib.decodeL_N]
  rcases u8N_decode l.length (l.getD 0 0).toNat (l.getD 1 0).toNat (l.getD 2 0).toNat (l.getD 3 0).toNat with ⟨h1, _⟩ | ⟨_, h2, h3⟩
  · omega
  · rw [if_neg h3, h2, hk]
theorem getD_app {a b : List UInt8} {i : Nat} (h : i < a.length) : (a ++ b).getD i 0 = a.getD i 0 := by
  simp [List.getD, List.getElem?_append_left h]
theorem getD_take {a : List UInt8} {i n : Nat} (h : i < n) : (a.take n).getD i 0 = a.getD i 0 := by
  simp [List.getD, List.getElem?_take_of_lt h]
theorem valid_seg (s t : List UInt8) (i : Nat) (hi : i < s.length) (hz : u8len s i ≠ 0) : Lib.validD ((s.drop i).take (u8len s i) ++ t) = Lib.validD t := by
  have hle := u8len_le s i (by omega)
  have hN := u8len_N s i hi
  have hsl : ((s.drop i).take (u8len s i)).length = u8len s i := by rw [List.length_take, List.length_drop]; omega
  have hg : ∀ j, j < u8len s i → ((s.drop i).take (u8len s i) ++ t).getD j 0 = s.getD (i + j) 0 := fun j hj => by
    rw [getD_app (by rw [hsl]; exact hj), getD_take hj, getD_drop]
  have h0 := hg 0 (by omega)
  rw [Nat.add_zero] at h0
  have key := u8N_local (N' := ((s.drop i).take (u8len s i) ++ t).length) (c1 := (((s.drop i).take (u8len s i) ++ t).getD 1 0).toNat) (c2 := (((s.drop i).take (u8len s i) ++ t).getD 2 0).toNat) (c3 := (((s.drop i).take (u8len s i) ++ t).getD 3 0).toNat) hN.symm hz (by rw [List.length_append, hsl]; omega) (fun h => by rw [hg 1 h]) (fun h => by rw [hg 2 h]) (fun h => by rw [hg 3 h])
  rw [← h0] at key
  have := valid_cut (l := (s.drop i).take (u8len s i) ++ t) (by
    intro e
    have := congrArg List.length e
    rw [List.length_append, hsl] at this
    simp only [List.length_nil] at this; omega) key hz
  rw [this, List.drop_left' hsl]
theorem valid_sign (t : List UInt8) : Lib.validD (signU ++ t) = Lib.validD t := by
  have := valid_cut (l := signU ++ t) (k := 3) (by simp [signU]) (by
    have e0 : (signU ++ t).getD 0 0 = 239 := rfl
    have e1 : (signU ++ t).getD 1 0 = 191 := rfl
    have e2 : (signU ++ t).getD 2 0 = 189 := rfl
    rw [e0, e1, e2]
    have hl : (signU ++ t).length = 3 + t.length := by rw [List.length_append]; rfl
    rw [hl]
    unfold u8N
    rw [if_neg (by decide), if_neg (by decide), if_pos (by decide), if_pos ⟨by omega, by decide, by decide, by decide, by decide⟩]) (by decide)
  rw [this]; rfl
theorem cleanF_valid (s : List UInt8) : ∀ (m i : Nat), i ≤ s.length → Lib.validD (cleanF s m i) = true
  | 0, _, _ => Lib.validD_nil
  | m + 1, i, hi => by
    simp only [cleanF]
    split
    · exact Lib.validD_nil
    · split
      · rw [valid_sign]; exact cleanF_valid s m (i + 1) (by omega)
      · rename_i h1 h2
        rw [valid_seg s _ i (by omega) h2]
        exact cleanF_valid s m _ (u8len_le s i hi)
theorem cleanP_valid (s : List UInt8) : Lib.validD (cleanP s) = true := cleanF_valid s _ _ (Nat.zero_le _)

theorem clean_ok (s : List UInt8) (w : World) (hs : s.length ≤ 10000000) :
    Ret Tryz.prog 9 ⟨[S s]⟩ w fun r w' => r = S (cleanP s) ∧ w' = w := by
  refine ret_of_G Tryz.func9 rfl Tryz.ntmps9 rfl ?_
  simp only [argEnv]
  try (first | refine gl tb ?_ | refine gg tb ?_ | refine ll tb ?_ | refine lg tb ?_); repeat ((first | refine G.condT rfl ?_ | refine G.condF rfl ?_ | refine sFa tb ?_ | refine sLd tb ?_ | refine sLa tb ?_ | refine sLen tb ?_ | refine sFd tb ?_ | refine sBd tb ?_ | refine sBa tb ?_); try (first | refine gl tb ?_ | refine gg tb ?_ | refine ll tb ?_ | refine lg tb ?_))
  refine (G.loop (fun x : List UInt8 × Nat => [(0, none, S s), (3, none, S x.1), (4, none, .int .i64 x.2)]) (fun x W => W = w ∧ x.2 ≤ s.length ∧ x.1 ++ cleanF s (s.length - x.2) x.2 = cleanP s) (fun x => s.length - x.2) ([], 0) (by repeat (first | exact Sub.nil _ | refine Sub.cons rfl ?_)) ⟨rfl, by simp, by simp [cleanP]⟩ ?_)
  rintro ⟨out, i⟩ W ⟨rfl, hi, hto⟩
  simp only at hi hto ⊢
  have hcl := cleanP_len s
  have hol : out.length ≤ (cleanP s).length := by rw [← hto, List.length_append]; omega
  try (first | refine gl tb ?_ | refine gg tb ?_ | refine ll tb ?_ | refine lg tb ?_); repeat ((first | refine G.condT rfl ?_ | refine G.condF rfl ?_ | refine sFa tb ?_ | refine sLd tb ?_ | refine sLa tb ?_ | refine sLen tb ?_ | refine sFd tb ?_ | refine sBd tb ?_ | refine sBa tb ?_); try (first | refine gl tb ?_ | refine gg tb ?_ | refine ll tb ?_ | refine lg tb ?_))
  first | refine G.condD rfl (fun hc => ?_) (fun hc => ?_) | refine G.condN rfl (fun hc => ?_) (fun hc => ?_) | refine G.cond rfl (fun hc => ?_) (fun hc => ?_)
  · have hlt : i < s.length := by omega
    have hst := cleanF_step hlt
    have hle := u8len_le s i hi
    try (first | refine gl tb ?_ | refine gg tb ?_ | refine ll tb ?_ | refine lg tb ?_); repeat ((first | refine G.condT rfl ?_ | refine G.condF rfl ?_ | refine sFa tb ?_ | refine sLd tb ?_ | refine sLa tb ?_ | refine sLen tb ?_ | refine sFd tb ?_ | refine sBd tb ?_ | refine sBa tb ?_); try (first | refine gl tb ?_ | refine gg tb ?_ | refine ll tb ?_ | refine lg tb ?_))
    refine sCall c32 (utf8_ok s i W (by omega) hlt) ?_
    rintro _ W2 ⟨rfl, rfl⟩
    try (first | refine gl tb ?_ | refine gg tb ?_ | refine ll tb ?_ | refine lg tb ?_); repeat ((first | refine G.condT rfl ?_ | refine G.condF rfl ?_ | refine sFa tb ?_ | refine sLd tb ?_ | refine sLa tb ?_ | refine sLen tb ?_ | refine sFd tb ?_ | refine sBd tb ?_ | refine sBa tb ?_); try (first | refine gl tb ?_ | refine gg tb ?_ | refine ll tb ?_ | refine lg tb ?_))
    first | refine G.condD rfl (fun hc => ?_) (fun hc => ?_) | refine G.condN rfl (fun hc => ?_) (fun hc => ?_) | refine G.cond rfl (fun hc => ?_) (fun hc => ?_)
    · have hz : u8len s i = 0 := by omega
      rw [if_pos hz] at hst
      rw [hst] at hto
      try (first | refine gl tb ?_ | refine gg tb ?_ | refine ll tb ?_ | refine lg tb ?_); repeat ((first | refine G.condT rfl ?_ | refine G.condF rfl ?_ | refine sFa tb ?_ | refine sLd tb ?_ | refine sLa tb ?_ | refine sLen tb ?_ | refine sFd tb ?_ | refine sBd tb ?_ | refine sBa tb ?_); try (first | refine gl tb ?_ | refine gg tb ?_ | refine ll tb ?_ | refine lg tb ?_))
      refine sCat tb ?_
      try (first | refine gl tb ?_ | refine gg tb ?_ | refine ll tb ?_ | refine lg tb ?_); repeat ((first | refine G.condT rfl ?_ | refine G.condF rfl ?_ | refine sFa tb ?_ | refine sLd tb ?_ | refine sLa tb ?_ | refine sLen tb ?_ | refine sFd tb ?_ | refine sBd tb ?_ | refine sBa tb ?_); try (first | refine gl tb ?_ | refine gg tb ?_ | refine ll tb ?_ | refine lg tb ?_))
      refine sAd tb ?_
      try (first | refine gl tb ?_ | refine gg tb ?_ | refine ll tb ?_ | refine lg tb ?_); repeat ((first | refine G.condT rfl ?_ | refine G.condF rfl ?_ | refine sFa tb ?_ | refine sLd tb ?_ | refine sLa tb ?_ | refine sLen tb ?_ | refine sFd tb ?_ | refine sBd tb ?_ | refine sBa tb ?_); try (first | refine gl tb ?_ | refine gg tb ?_ | refine ll tb ?_ | refine lg tb ?_))
      exact G.lp (x := (out, i)) (out ++ [239, 191, 189], i + 1) (by repeat (first | exact Sub.nil _ | refine Sub.cons rfl ?_)) ⟨rfl, by simp only; omega, by rw [← hto, List.append_assoc]; rfl⟩ (by simp only; omega)
    · have hz : u8len s i ≠ 0 := by omega
      rw [if_neg hz] at hst
      rw [hst] at hto
      try (first | refine gl tb ?_ | refine gg tb ?_ | refine ll tb ?_ | refine lg tb ?_); repeat ((first | refine G.condT rfl ?_ | refine G.condF rfl ?_ | refine sFa tb ?_ | refine sLd tb ?_ | refine sLa tb ?_ | refine sLen tb ?_ | refine sFd tb ?_ | refine sBd tb ?_ | refine sBa tb ?_); try (first | refine gl tb ?_ | refine gg tb ?_ | refine ll tb ?_ | refine lg tb ?_))
      refine sAr (r := ((i + u8len s i : Nat) : Int)) ?_ (hp := (wrap_i64 (by omega) (by omega)).trans (by omega))
      refine GL.cons (Step.sliceS tb i (i + u8len s i) rfl (Op1.of rfl (by first | exact fun _ => rfl | exact fun h => h | exact fun h => bL h | exact fun h => bL (bL h) | exact fun h => bL (bL (bL h)))) (Op1.of rfl (by first | exact fun _ => rfl | exact fun h => h | exact fun h => bL h | exact fun h => bL (bL h) | exact fun h => bL (bL (bL h)))) (Op1.of rfl (by first | exact fun _ => rfl | exact fun h => h | exact fun h => bL h | exact fun h => bL (bL h) | exact fun h => bL (bL (bL h)))) rfl (fun _ => ⟨rfl, rfl, by omega, by omega⟩) rfl ?_)
      refine sCat tb ?_ (hk := fun _ => by rw [List.length_take, List.length_drop]; omega)
      try (first | refine gl tb ?_ | refine gg tb ?_ | refine ll tb ?_ | refine lg tb ?_); repeat ((first | refine G.condT rfl ?_ | refine G.condF rfl ?_ | refine sFa tb ?_ | refine sLd tb ?_ | refine sLa tb ?_ | refine sLen tb ?_ | refine sFd tb ?_ | refine sBd tb ?_ | refine sBa tb ?_); try (first | refine gl tb ?_ | refine gg tb ?_ | refine ll tb ?_ | refine lg tb ?_))
      refine sAr (r := ((i + u8len s i : Nat) : Int)) ?_ (hp := (wrap_i64 (by omega) (by omega)).trans (by omega))
      try (first | refine gl tb ?_ | refine gg tb ?_ | refine ll tb ?_ | refine lg tb ?_); repeat ((first | refine G.condT rfl ?_ | refine G.condF rfl ?_ | refine sFa tb ?_ | refine sLd tb ?_ | refine sLa tb ?_ | refine sLen tb ?_ | refine sFd tb ?_ | refine sBd tb ?_ | refine sBa tb ?_); try (first | refine gl tb ?_ | refine gg tb ?_ | refine ll tb ?_ | refine lg tb ?_))
      exact G.lp (x := (out, i)) (out ++ (s.drop i).take (i + u8len s i - i), i + u8len s i) (by repeat (first | exact Sub.nil _ | refine Sub.cons rfl ?_)) ⟨rfl, by simp only; omega, by simp only [Nat.add_sub_cancel_left]; rw [← hto, List.append_assoc]⟩ (by simp only; omega)
  · have hie : i = s.length := by omega
    rw [hie, Nat.sub_self] at hto
    simp only [cleanF, List.append_nil] at hto
    try (first | refine gl tb ?_ | refine gg tb ?_ | refine ll tb ?_ | refine lg tb ?_); repeat ((first | refine G.condT rfl ?_ | refine G.condF rfl ?_ | refine sFa tb ?_ | refine sLd tb ?_ | refine sLa tb ?_ | refine sLen tb ?_ | refine sFd tb ?_ | refine sBd tb ?_ | refine sBa tb ?_); try (first | refine gl tb ?_ | refine gg tb ?_ | refine ll tb ?_ | refine lg tb ?_))
    refine G.ret1 rfl rfl rfl rfl ?_
    exact ⟨by rw [hto], rfl⟩

/-- the sixteen digits of the hex texts -/
def hexS : List UInt8 := [48, 49, 50, 51, 52, 53, 54, 55, 56, 57, 97, 98, 99, 100, 101, 102]
end Go.Proofs.YtlaingmhdgpkdaaGreatDoor
