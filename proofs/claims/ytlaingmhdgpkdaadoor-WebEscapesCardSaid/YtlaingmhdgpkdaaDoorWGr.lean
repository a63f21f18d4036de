/- The law of the greatest request, walked. -/
import Derived.Test.YtlaingmhdgpkdaaDoorWPa
import Derived.Test.YtlaingmhdgpkdaaDoorV30
open Go Go.Vg Go.RowKit Go.Proofs Go.Proofs.YtlaingmhdgpkdaaDoor
namespace Go.Proofs.YtlaingmhdgpkdaaDoor
set_option linter.unusedSimpArgs false

/-! ### where a separator cannot stand -/
/-- do two texts differ within both? -/
def misM : List UInt8 → List UInt8 → Bool
  | a :: s, b :: p => !decide (a = b) || misM s p
  | _, _ => false
def skips (sep : List UInt8) : List UInt8 → Bool
  | [] => true
  | c :: r => misM sep (c :: r) && skips sep r
theorem misM_pre : ∀ (sep p t : List UInt8), misM sep p = true → sep.isPrefixOf (p ++ t) = false
  | [], _, _, h => by simp [misM] at h
  | _ :: _, [], _, h => by simp [misM] at h
  | a :: s, b :: p, t, h => by
    simp only [misM, Bool.or_eq_true, Bool.not_eq_true', decide_eq_false_iff_not] at h
    rw [List.cons_append, List.isPrefixOf_cons_cons]
    rcases h with h | h
    · rw [beq_false_of_ne h]; rfl
    · rw [misM_pre s p t h, Bool.and_false]
theorem index_c (c : UInt8) (l sub : List UInt8) : Lib.index (c :: l) sub = if sub.isPrefixOf (c :: l) then 0 else if Lib.index l sub == -1 then -1 else Lib.index l sub + 1 := rfl
theorem index_skips {sep : List UInt8} : ∀ (pre t : List UInt8), skips sep pre = true → Lib.index (pre ++ t) sep = if Lib.index t sep = -1 then -1 else (pre.length : Int) + Lib.index t sep
  | [], t, _ => by
    rw [List.nil_append]
    split
    · assumption
    · simp
  | c :: r, t, h => by
    simp only [skips, Bool.and_eq_true] at h
    have ih := index_skips r t h.2
    have hp := misM_pre sep (c :: r) t h.1
    rw [List.cons_append] at hp ⊢
    rw [index_c, hp, ih]
    have hge := Lib.index_ge t sep
    by_cases ht : Lib.index t sep = -1
    · simp [ht]
    · rw [if_neg ht]
      simp only [Bool.false_eq_true, if_false, beq_iff_eq, if_neg ht, List.length_cons]
      rw [if_neg (by omega)]
      push_cast
      omega
theorem index_here {sep : List UInt8} (h : sep ≠ []) (t : List UInt8) : Lib.index (sep ++ t) sep = 0 := by
  cases sep with
  | nil => exact absurd rfl h
  | cons a r =>
    rw [List.cons_append, index_c]
    rw [show (a :: r).isPrefixOf (a :: (r ++ t)) = true from List.isPrefixOf_iff_prefix.2 ⟨t, rfl⟩]
    rfl
theorem cut_skips {sep : List UInt8} (hs : sep ≠ []) (pre t : List UInt8) (h : skips sep pre = true) : Lib.cut (pre ++ (sep ++ t)) sep = (pre, t, true) := by
  have hi : Lib.index (pre ++ (sep ++ t)) sep = (pre.length : Int) := by rw [index_skips pre _ h, index_here hs, if_neg (by decide)]; simp
  unfold Lib.cut
  rw [hi, if_pos (by omega), Int.toNat_natCast]
  rw [List.take_left' rfl, ← List.append_assoc, List.drop_left' (by rw [List.length_append])]
theorem cut_skips0 {sep : List UInt8} (hs : sep ≠ []) (s : List UInt8) (h : skips sep s = true) : Lib.cut s sep = (s, [], false) := by
  have hi : Lib.index s sep = -1 := by
    have := index_skips s [] h
    rw [List.append_nil, index_nil hs, if_pos rfl] at this
    exact this
  unfold Lib.cut
  rw [hi, if_neg (by decide)]
theorem skips_ne {c : UInt8} {sep : List UInt8} : ∀ (s : List UInt8), (∀ b ∈ s, b ≠ c) → skips (c :: sep) s = true
  | [], _ => rfl
  | b :: r, h => by
    simp only [skips, misM, Bool.and_eq_true, Bool.or_eq_true, Bool.not_eq_true', decide_eq_false_iff_not]
    exact ⟨.inl (fun e => h b (by simp) e.symm), skips_ne r (fun x hx => h x (by simp [hx]))⟩
theorem skips_app {sep : List UInt8} : ∀ (a b : List UInt8), skips sep a = true → skips sep b = true → skips sep (a ++ b) = true
  | [], b, _, h => h
  | c :: r, b, h, k => by
    simp only [skips, Bool.and_eq_true] at h
    rw [List.cons_append]
    simp only [skips, Bool.and_eq_true]
    refine ⟨?_, skips_app r b h.2 k⟩
    have mono : ∀ (s p : List UInt8), misM s p = true → misM s (p ++ b) = true := by
      intro s
      induction s with
      | nil => intro p h; simp [misM] at h
      | cons a s ih =>
        intro p h
        cases p with
        | nil => simp [misM] at h
        | cons q p =>
          simp only [misM, Bool.or_eq_true] at h
          rw [List.cons_append]
          simp only [misM, Bool.or_eq_true]
          exact h.imp id (ih p)
    have := mono sep (c :: r) h.1
    rwa [List.cons_append] at this

def headG : List UInt8 := [80, 79, 83, 84, 32, 47, 32, 72, 84, 84, 80, 47, 49, 46, 49, 13, 10, 67, 111, 110, 116, 101, 110, 116, 45, 76, 101, 110, 103, 116, 104, 58, 32]
theorem great_read1 (n : Nat) (D body : List UInt8) (hD : skips [13, 10, 13, 10] (headG ++ D) = true) (hb : body.length = n) (hr : (headG ++ D).length + 4 + n ≤ 1048576)
    (h1 : headP [] (piecesL (headG ++ D) [13, 10]).tail = some [(clS, D)]) (h2 : lineA ((piecesL (headG ++ D) [13, 10]).headD []) = (postS, [47], true)) (h3 : intP D = some (n : Int)) :
    (readP (headG ++ D ++ [13, 10, 13, 10] ++ body)).2 = 200 := by
  have hc := cut_skips (sep := [13, 10, 13, 10]) (by simp) (headG ++ D) body hD
  rw [← List.append_assoc] at hc
  unfold readP
  rw [if_neg (by rw [List.length_append, List.length_append, hb]; simp only [List.length_cons, List.length_nil]; omega), hc]
  unfold readH
  simp only [h1, h2]
  have hl : lengthP [(clS, D)] body = true := by
    unfold lengthP
    rw [show aget [(clS, D)] clS = some D from by simp [aget]]
    simp only [h3]
    rw [hb]; simp
  rw [hl, if_neg (by simp), if_neg (by simp)]
  have hB : readB postS [47] body [(clS, D)] = ((postS, [47], []), 200) := by
    unfold readB
    have e1 : decP false (Lib.cut [47] [63]).1 = some [47] := by decide +kernel
    have e2 : paramsL (piecesL (Lib.cut [47] [63]).2.1 [38]) = some [] := by decide +kernel
    have e3 : textP [47] [] = true := by decide +kernel
    have e4 : aget [(clS, D)] ctS = none := by simp only [aget]; rw [if_neg (by decide)]
    rw [e1, e2]
    simp only [e3, e4]
    rw [if_neg (by simp), if_neg (by decide +kernel)]
  rw [hB]
theorem great_read (n : Nat) (hn : n = 1048531 ∨ n = 1048532) (body : List UInt8) (hb : body.length = n) : (readP (headG ++ digF 19 n ++ [13, 10, 13, 10] ++ body)).2 = 200 := by
  rcases hn with rfl | rfl
  · exact great_read1 _ _ body (by decide +kernel) hb (by decide +kernel) (by decide +kernel) (by decide +kernel) (by decide +kernel)
  · exact great_read1 _ _ body (by decide +kernel) hb (by decide +kernel) (by decide +kernel) (by decide +kernel) (by decide +kernel)
theorem great_dig (n : Nat) (hn : n = 1048531 ∨ n = 1048532 ∨ n = 1048533) : (headG ++ digF 19 n ++ [13, 10, 13, 10]).length = 44 := by
  rcases hn with rfl | rfl | rfl <;> decide +kernel

theorem great_law (by_ : Int) (w : World) (hM : MaxC w) (hT : Tabs w) :
    Ret Tryd.prog 3 ⟨[.int .i64 by_]⟩ w fun r w' => r = .bool true ∧ Ext w w' := by
  obtain ⟨q, hq⟩ : ∃ q, q = by_ % 3 := ⟨_, rfl⟩
  have hq3 : 0 ≤ q ∧ q < 3 := by omega
  refine ret_of_G Tryd.func3 rfl Tryd.ntmps3 rfl ?_
  simp only [argEnv]
  try (first | refine gl tb ?_ | refine gg tb ?_ | refine ll tb ?_ | refine lg tb ?_); repeat ((first | refine G.condT rfl ?_ | refine G.condF rfl ?_ | refine sFa tb ?_ | refine sLd tb ?_ | refine sLa tb ?_ | refine sLen tb ?_ | refine sFd tb ?_ | refine sBd tb ?_ | refine sBa tb ?_); try (first | refine gl tb ?_ | refine gg tb ?_ | refine ll tb ?_ | refine lg tb ?_))
  refine sAr (r := 1048543) ?_
  try (first | refine gl tb ?_ | refine gg tb ?_ | refine ll tb ?_ | refine lg tb ?_); repeat ((first | refine G.condT rfl ?_ | refine G.condF rfl ?_ | refine sFa tb ?_ | refine sLd tb ?_ | refine sLa tb ?_ | refine sLen tb ?_ | refine sFd tb ?_ | refine sBd tb ?_ | refine sBa tb ?_); try (first | refine gl tb ?_ | refine gg tb ?_ | refine ll tb ?_ | refine lg tb ?_))
  refine sAr (r := 1048532) ?_
  try (first | refine gl tb ?_ | refine gg tb ?_ | refine ll tb ?_ | refine lg tb ?_); repeat ((first | refine G.condT rfl ?_ | refine G.condF rfl ?_ | refine sFa tb ?_ | refine sLd tb ?_ | refine sLa tb ?_ | refine sLen tb ?_ | refine sFd tb ?_ | refine sBd tb ?_ | refine sBa tb ?_); try (first | refine gl tb ?_ | refine gg tb ?_ | refine ll tb ?_ | refine lg tb ?_))
  refine sCall c7 (within_ok by_ 3 w (by omega) (by omega)) ?_
  rintro _ w1 ⟨rfl, hw⟩
  obtain rfl : w = w1 := hw.symm
  rw [← hq]
  refine sAr (r := 1048532 + q) ?_ (hp := wrap_i64 (by omega) (by omega))
  refine sAr (r := 1048531 + q) ?_ (hp := (wrap_i64 (by omega) (by omega)).trans (by omega))
  try (first | refine gl tb ?_ | refine gg tb ?_ | refine ll tb ?_ | refine lg tb ?_); repeat ((first | refine G.condT rfl ?_ | refine G.condF rfl ?_ | refine sFa tb ?_ | refine sLd tb ?_ | refine sLa tb ?_ | refine sLen tb ?_ | refine sFd tb ?_ | refine sBd tb ?_ | refine sBa tb ?_); try (first | refine gl tb ?_ | refine gg tb ?_ | refine ll tb ?_ | refine lg tb ?_))
  first | refine G.condD rfl (fun hc => ?_) (fun hc => ?_) | refine G.condN rfl (fun hc => ?_) (fun hc => ?_) | refine G.cond rfl (fun hc => ?_) (fun hc => ?_)
  · exfalso
    omega
  · clear hc hq
    obtain ⟨n, hn⟩ : ∃ n : Nat, (n : Int) = 1048531 + q := ⟨(1048531 + q).toNat, by omega⟩
    have hn3 : n = 1048531 ∨ n = 1048532 ∨ n = 1048533 := by omega
    rw [← hn]
    have hdl := great_dig n hn3
    try (first | refine gl tb ?_ | refine gg tb ?_ | refine ll tb ?_ | refine lg tb ?_); repeat ((first | refine G.condT rfl ?_ | refine G.condF rfl ?_ | refine sFa tb ?_ | refine sLd tb ?_ | refine sLa tb ?_ | refine sLen tb ?_ | refine sFd tb ?_ | refine sBd tb ?_ | refine sBa tb ?_); try (first | refine gl tb ?_ | refine gg tb ?_ | refine ll tb ?_ | refine lg tb ?_))
    refine sCall c8 (digits_ok 19 n (by omega) (by omega) (by omega) w) ?_
    rintro _ w2 ⟨rfl, hx2⟩
    have hdl2 := digF_len 19 n
    refine sCat tb ?_
    refine sCat tb ?_
    have ht : [80, 79, 83, 84, 32, 47, 32, 72, 84, 84, 80, 47, 49, 46, 49, 13, 10, 67, 111, 110, 116, 101, 110, 116, 45, 76, 101, 110, 103, 116, 104, 58, 32] ++ digF 19 n ++ [13, 10, 13, 10] = headG ++ digF 19 n ++ [13, 10, 13, 10] := rfl
    rw [ht]
    clear ht
    have hrd := fun body hb h => great_read n h body hb
    generalize headG ++ digF 19 n ++ [13, 10, 13, 10] = hd at hdl hrd ⊢
    refine GL.cons (Step.strBytes2 tb rfl (Op1.of rfl (by first | exact fun _ => rfl | exact fun h => h | exact fun h => bL h | exact fun h => bL (bL h) | exact fun h => bL (bL (bL h)))) rfl rfl rfl rfl ?_)
    intro w3 cp cs hcell htk hcl hsG hs3 hx3
    have hx03 := hx2.trans hx3
    obtain ⟨b, hbe⟩ : ∃ b, b = w2.heap.size := ⟨_, rfl⟩
    rw [← hbe] at hcell ⊢
    try (first | refine gl tb ?_ | refine gg tb ?_ | refine ll tb ?_ | refine lg tb ?_); repeat ((first | refine G.condT rfl ?_ | refine G.condF rfl ?_ | refine sFa tb ?_ | refine sLd tb ?_ | refine sLa tb ?_ | refine sLen tb ?_ | refine sFd tb ?_ | refine sBd tb ?_ | refine sBa tb ?_); try (first | refine gl tb ?_ | refine gg tb ?_ | refine ll tb ?_ | refine lg tb ?_))
    refine GL.cons (Step.appendZB (B := w.heap.size) tb rfl (Op1.of rfl (by first | exact fun _ => rfl | exact fun h => h | exact fun h => bL h | exact fun h => bL (bL h) | exact fun h => bL (bL (bL h)))) (Op1.of rfl (by first | exact fun _ => rfl | exact fun h => h | exact fun h => bL h | exact fun h => bL (bL h) | exact fun h => bL (bL (bL h)))) rfl rfl rfl rfl hcell htk hcl hsG (by have := hx2.size; omega) (by omega) (by omega) rfl ?_)
    intro v w4 hv hx4
    have hx04 : Ext w w4 := Below.trans hx03 hx4
    have hrl : (hd ++ List.replicate n (0 : UInt8)).length = 44 + n := by rw [List.length_append, hdl, List.length_replicate]
    have hrd := hrd (List.replicate n 0) (List.length_replicate)
    generalize hd ++ List.replicate n (0 : UInt8) = raw at hv hrl hrd
    try (first | refine gl tb ?_ | refine gg tb ?_ | refine ll tb ?_ | refine lg tb ?_); repeat ((first | refine G.condT rfl ?_ | refine G.condF rfl ?_ | refine sFa tb ?_ | refine sLd tb ?_ | refine sLa tb ?_ | refine sLen tb ?_ | refine sFd tb ?_ | refine sBd tb ?_ | refine sBa tb ?_); try (first | refine gl tb ?_ | refine gg tb ?_ | refine ll tb ?_ | refine lg tb ?_))
    refine sCall c9 (read_ok v raw w4 hv (hM.to hx04) (hT.to hx04)) ?_
    rintro r w5 ⟨hx5, u, rfl, hu⟩
    have hx05 := hx04.trans hx5
    have hv5 := hv.to hx5
    have hst : (44 + n ≤ 1048576 → (readP raw).2 = 200) ∧ (1048576 < 44 + n → (readP raw).2 = 413) := by
      refine ⟨fun h => hrd (by omega), fun h => ?_⟩
      unfold readP; rw [if_pos (by omega)]
    clear hrd
    generalize (readP raw).2 = st at hst ⊢
    generalize (readP raw).1.1 = m1
    generalize (readP raw).1.2.1 = m2
    generalize (readP raw).1.2.2 = m3 at hu
    obtain ⟨ua, uc, hue, -⟩ := hu.len
    subst hue
    try (first | refine gl tb ?_ | refine gg tb ?_ | refine ll tb ?_ | refine lg tb ?_); repeat ((first | refine G.condT rfl ?_ | refine G.condF rfl ?_ | refine sFa tb ?_ | refine sLd tb ?_ | refine sLa tb ?_ | refine sLen tb ?_ | refine sFd tb ?_ | refine sBd tb ?_ | refine sBa tb ?_); try (first | refine gl tb ?_ | refine gg tb ?_ | refine ll tb ?_ | refine lg tb ?_))
    refine sAl tb ?_
    intro w6 hb6 hs6 hx6
    refine sSt tb ?_ (vs := reqC m1 m2 (.slice ua _ uc)) (hv := rfl) (hb := hb6) (h1 := by
      simp only [reqC, List.mem_cons, List.not_mem_nil, or_false]
      rintro x (rfl | rfl | rfl) <;> rfl)
    intro w7 hb7 hw7
    have hx57 : Ext w5 w7 := Below.wr hx6 hw7 (Nat.le_refl _)
    have hx07 := hx05.trans hx57
    have hv7 := hv5.to hx57
    try (first | refine gl tb ?_ | refine gg tb ?_ | refine ll tb ?_ | refine lg tb ?_); repeat ((first | refine G.condT rfl ?_ | refine G.condF rfl ?_ | refine sFa tb ?_ | refine sLd tb ?_ | refine sLa tb ?_ | refine sLen tb ?_ | refine sFd tb ?_ | refine sBd tb ?_ | refine sBa tb ?_); try (first | refine gl tb ?_ | refine gg tb ?_ | refine ll tb ?_ | refine lg tb ?_))
    rw [bysC_len, hrl]
    try (first | refine gl tb ?_ | refine gg tb ?_ | refine ll tb ?_ | refine lg tb ?_); repeat ((first | refine G.condT rfl ?_ | refine G.condF rfl ?_ | refine sFa tb ?_ | refine sLd tb ?_ | refine sLa tb ?_ | refine sLen tb ?_ | refine sFd tb ?_ | refine sBd tb ?_ | refine sBa tb ?_); try (first | refine gl tb ?_ | refine gg tb ?_ | refine ll tb ?_ | refine lg tb ?_))
    first | refine G.condD rfl (fun hc => ?_) (fun hc => ?_) | refine G.condN rfl (fun hc => ?_) (fun hc => ?_) | refine G.cond rfl (fun hc => ?_) (fun hc => ?_)
    · have h413 := hst.2 (by omega)
      rw [h413]
      try (first | refine gl tb ?_ | refine gg tb ?_ | refine ll tb ?_ | refine lg tb ?_); repeat ((first | refine G.condT rfl ?_ | refine G.condF rfl ?_ | refine sFa tb ?_ | refine sLd tb ?_ | refine sLa tb ?_ | refine sLen tb ?_ | refine sFd tb ?_ | refine sBd tb ?_ | refine sBa tb ?_); try (first | refine gl tb ?_ | refine gg tb ?_ | refine ll tb ?_ | refine lg tb ?_))
      refine sCallx (vs := []) c10 (fun _ => wakes_ok w7 (hM.to hx07) (hT.to hx07)) ?_
      intro w8 hx8
      try (first | refine gl tb ?_ | refine gg tb ?_ | refine ll tb ?_ | refine lg tb ?_); repeat ((first | refine G.condT rfl ?_ | refine G.condF rfl ?_ | refine sFa tb ?_ | refine sLd tb ?_ | refine sLa tb ?_ | refine sLen tb ?_ | refine sFd tb ?_ | refine sBd tb ?_ | refine sBa tb ?_); try (first | refine gl tb ?_ | refine gg tb ?_ | refine ll tb ?_ | refine lg tb ?_))
      refine G.ret1 rfl rfl rfl rfl ?_
      exact ⟨rfl, hx07.trans hx8⟩
    · have h200 := hst.1 (by omega)
      rw [h200]
      try (first | refine gl tb ?_ | refine gg tb ?_ | refine ll tb ?_ | refine lg tb ?_); repeat ((first | refine G.condT rfl ?_ | refine G.condF rfl ?_ | refine sFa tb ?_ | refine sLd tb ?_ | refine sLa tb ?_ | refine sLen tb ?_ | refine sFd tb ?_ | refine sBd tb ?_ | refine sBa tb ?_); try (first | refine gl tb ?_ | refine gg tb ?_ | refine ll tb ?_ | refine lg tb ?_))
      refine sCallx (vs := []) c10 (fun _ => wakes_ok w7 (hM.to hx07) (hT.to hx07)) ?_
      intro w8 hx8
      try (first | refine gl tb ?_ | refine gg tb ?_ | refine ll tb ?_ | refine lg tb ?_); repeat ((first | refine G.condT rfl ?_ | refine G.condF rfl ?_ | refine sFa tb ?_ | refine sLd tb ?_ | refine sLa tb ?_ | refine sLen tb ?_ | refine sFd tb ?_ | refine sBd tb ?_ | refine sBa tb ?_); try (first | refine gl tb ?_ | refine gg tb ?_ | refine ll tb ?_ | refine lg tb ?_))
      refine G.ret1 rfl rfl rfl rfl ?_
      exact ⟨rfl, hx07.trans hx8⟩
end Go.Proofs.YtlaingmhdgpkdaaDoor
