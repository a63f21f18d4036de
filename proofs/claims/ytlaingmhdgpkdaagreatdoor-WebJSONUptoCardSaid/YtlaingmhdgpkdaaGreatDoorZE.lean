/- Texts in pieces, walked. -/
import Derived.Test.YtlaingmhdgpkdaaGreatDoorZD
open Go Go.Vg Go.RowKit Go.Proofs Go.Proofs.YtlaingmhdgpkdaaGreatDoor
namespace Go.Proofs.YtlaingmhdgpkdaaGreatDoor
set_option linter.unusedSimpArgs false

def strC (s : List UInt8) : List Value := [S s]
abbrev Strs (w : World) (v : Value) (ns : List (List UInt8)) : Prop := Sli w v 1 (ns.map strC)
abbrev SO (w : World) (B : Nat) (v : Value) (ss : List (List UInt8)) : Prop := Owns w B v 9 1 (ss.map strC)
theorem strC_k (ns : List (List UInt8)) : ∀ x ∈ ns.map strC, x.length = 1 := by
  intro x hx
  obtain ⟨y, _, rfl⟩ := List.mem_map.1 hx
  rfl
theorem str1 (ns : List (List UInt8)) : ∀ y ∈ ns.map strC, ∀ c ∈ y, c.oneCell' = true := by
  intro y hy c hc
  obtain ⟨x, _, rfl⟩ := List.mem_map.1 hy
  simp only [strC, List.mem_cons, List.not_mem_nil, or_false] at hc
  subst hc; rfl

theorem pieces_ok (s sep : List UInt8) (w : World) :
    Ret Tryz.prog 100 ⟨[S s, S sep]⟩ w fun r w' => ∃ b1 b2, r = .func (.func 133) #[] ⟨[ptr b1, ptr b2]⟩ ∧ w.heap.size ≤ b1 ∧ w.heap.size ≤ b2 ∧ Bx w' b1 [S s] ∧ Bx w' b2 [S sep] ∧ Ext w w' := by
  refine ret_of_G Tryz.func100 rfl Tryz.ntmps100 rfl ?_
  simp only [argEnv]
  try (first | refine gl tb ?_ | refine gg tb ?_ | refine ll tb ?_ | refine lg tb ?_); repeat ((first | refine G.condT rfl ?_ | refine G.condF rfl ?_ | refine sFa tb ?_ | refine sLd tb ?_ | refine sLa tb ?_ | refine sLen tb ?_ | refine sFd tb ?_ | refine sBd tb ?_ | refine sBa tb ?_); try (first | refine gl tb ?_ | refine gg tb ?_ | refine ll tb ?_ | refine lg tb ?_))
  refine sBox ?_
  intro w1 hb1 hs1 hx1
  refine sBox ?_
  intro w2 hb2 hs2 hx2
  try (first | refine gl tb ?_ | refine gg tb ?_ | refine ll tb ?_ | refine lg tb ?_); repeat ((first | refine G.condT rfl ?_ | refine G.condF rfl ?_ | refine sFa tb ?_ | refine sLd tb ?_ | refine sLa tb ?_ | refine sLen tb ?_ | refine sFd tb ?_ | refine sBd tb ?_ | refine sBa tb ?_); try (first | refine gl tb ?_ | refine gg tb ?_ | refine ll tb ?_ | refine lg tb ?_))
  refine G.ret1 rfl rfl rfl rfl ?_
  exact ⟨_, _, rfl, Nat.le_refl _, hx1.size, hb1.to hx2, hb2, hx1.trans hx2⟩
theorem pieces1_ok (s sep : List UInt8) (b1 b2 : Nat) (hs : s.length ≤ 4000000000) : IterOk Tryz.prog 133 [ptr b1, ptr b2] ((piecesL s sep).map strC) (fun W => CellAt W (ptr b1) (S s) ∧ CellAt W (ptr b2) (S sep) ∧ MaxC W) := by
  intro l I St w hD hI hSt h0 hY
  refine ret_of_G Tryz.func133 rfl Tryz.ntmps133 rfl ?_
  simp only [argEnv]
  have h0' := hD 0 w h0
  try (first | refine gl tb ?_ | refine gg tb ?_ | refine ll tb ?_ | refine lg tb ?_); repeat ((first | refine G.condT rfl ?_ | refine G.condF rfl ?_ | refine sFa tb ?_ | refine sLd tb ?_ | refine sLa tb ?_ | refine sLen tb ?_ | refine sFd tb ?_ | refine sBd tb ?_ | refine sBa tb ?_); try (first | refine gl tb ?_ | refine gg tb ?_ | refine ll tb ?_ | refine lg tb ?_))
  refine GL.cons (Step.load1 tb rfl (Op1.of rfl (by first | exact fun _ => rfl | exact fun h => h | exact fun h => bL h | exact fun h => bL (bL h) | exact fun h => bL (bL (bL h)))) rfl rfl (fun _ => h0'.1) rfl ?_)
  try (first | refine gl tb ?_ | refine gg tb ?_ | refine ll tb ?_ | refine lg tb ?_); repeat ((first | refine G.condT rfl ?_ | refine G.condF rfl ?_ | refine sFa tb ?_ | refine sLd tb ?_ | refine sLa tb ?_ | refine sLen tb ?_ | refine sFd tb ?_ | refine sBd tb ?_ | refine sBa tb ?_); try (first | refine gl tb ?_ | refine gg tb ?_ | refine ll tb ?_ | refine lg tb ?_))
  refine (G.loop (fun x : Nat × List UInt8 × Bool => [(0, none, yieldV l), (1, none, ptr b1), (2, none, ptr b2), (4, none, S x.2.1), (5, none, .bool x.2.2)]) (fun x W => I x.1 W ∧ x.1 ≤ (piecesL s sep).length ∧ x.2.1.length ≤ s.length ∧ (piecesL s sep).drop x.1 = if x.2.2 = true then piecesL x.2.1 sep else []) (fun x => if x.2.2 = true then x.2.1.length + 1 else 0) (0, s, true) (by repeat (first | exact Sub.nil _ | refine Sub.cons rfl ?_)) ⟨h0, Nat.zero_le _, Nat.le_refl _, by simp⟩ ?_)
  rintro ⟨i, rest, more⟩ W ⟨hIi, hil0, hrl, hdr⟩
  simp only at hIi hil0 hrl hdr ⊢
  have hDi := hD i W hIi
  try (first | refine gl tb ?_ | refine gg tb ?_ | refine ll tb ?_ | refine lg tb ?_); repeat ((first | refine G.condT rfl ?_ | refine G.condF rfl ?_ | refine sFa tb ?_ | refine sLd tb ?_ | refine sLa tb ?_ | refine sLen tb ?_ | refine sFd tb ?_ | refine sBd tb ?_ | refine sBa tb ?_); try (first | refine gl tb ?_ | refine gg tb ?_ | refine ll tb ?_ | refine lg tb ?_))
  have hget : ∀ p tl, (piecesL s sep).drop i = p :: tl → ((piecesL s sep).map strC)[i]? = some (strC p) ∧ (piecesL s sep).drop (i + 1) = tl ∧ i < (piecesL s sep).length := by
    intro p tl h
    have hlt : i < (piecesL s sep).length := by
      apply Classical.byContradiction
      intro hc
      rw [List.drop_of_length_le (by omega)] at h; cases h
    rw [List.drop_eq_getElem_cons hlt] at h
    injection h with h1 h2
    exact ⟨by rw [List.getElem?_map, List.getElem?_eq_getElem hlt, h1]; rfl, h2, hlt⟩
  cases more with
  | false =>
    have hle : (piecesL s sep).length ≤ i := by
      have := congrArg List.length hdr
      simp at this; omega
    try (first | refine gl tb ?_ | refine gg tb ?_ | refine ll tb ?_ | refine lg tb ?_); repeat ((first | refine G.condT rfl ?_ | refine G.condF rfl ?_ | refine sFa tb ?_ | refine sLd tb ?_ | refine sLa tb ?_ | refine sLen tb ?_ | refine sFd tb ?_ | refine sBd tb ?_ | refine sBa tb ?_); try (first | refine gl tb ?_ | refine gg tb ?_ | refine ll tb ?_ | refine lg tb ?_))
    obtain rfl : i = (piecesL s sep).length := by omega
    exact G.end0 rfl rfl rfl (.inl (by simpa using hIi))
  | true =>
    rw [if_pos rfl] at hdr
    try (first | refine gl tb ?_ | refine gg tb ?_ | refine ll tb ?_ | refine lg tb ?_); repeat ((first | refine G.condT rfl ?_ | refine G.condF rfl ?_ | refine sFa tb ?_ | refine sLd tb ?_ | refine sLa tb ?_ | refine sLen tb ?_ | refine sFd tb ?_ | refine sBd tb ?_ | refine sBa tb ?_); try (first | refine gl tb ?_ | refine gg tb ?_ | refine ll tb ?_ | refine lg tb ?_))
    refine GL.cons (Step.load1 tb rfl (Op1.of rfl (by first | exact fun _ => rfl | exact fun h => h | exact fun h => bL h | exact fun h => bL (bL h) | exact fun h => bL (bL (bL h)))) rfl rfl (fun _ => hDi.2.1) rfl ?_)
    try (first | refine gl tb ?_ | refine gg tb ?_ | refine ll tb ?_ | refine lg tb ?_); repeat ((first | refine G.condT rfl ?_ | refine G.condF rfl ?_ | refine sFa tb ?_ | refine sLd tb ?_ | refine sLa tb ?_ | refine sLen tb ?_ | refine sFd tb ?_ | refine sBd tb ?_ | refine sBa tb ?_); try (first | refine gl tb ?_ | refine gg tb ?_ | refine ll tb ?_ | refine lg tb ?_))
    first | refine G.condD rfl (fun hc => ?_) (fun hc => ?_) | refine G.condN rfl (fun hc => ?_) (fun hc => ?_) | refine G.cond rfl (fun hc => ?_) (fun hc => ?_)
    · have hsep : sep ≠ [] := by simpa using hc
      rw [piecesL_cut (s := rest) hsep] at hdr
      obtain ⟨hg, hdr2, hil⟩ := hget _ _ hdr
      have hcl := cut_len rest sep
      have hless := @cut_less rest sep hsep
      try (first | refine gl tb ?_ | refine gg tb ?_ | refine ll tb ?_ | refine lg tb ?_); repeat ((first | refine G.condT rfl ?_ | refine G.condF rfl ?_ | refine sFa tb ?_ | refine sLd tb ?_ | refine sLa tb ?_ | refine sLen tb ?_ | refine sFd tb ?_ | refine sBd tb ?_ | refine sBa tb ?_); try (first | refine gl tb ?_ | refine gg tb ?_ | refine ll tb ?_ | refine lg tb ?_))
      refine GL.cons (Step.load1 tb rfl (Op1.of rfl (by first | exact fun _ => rfl | exact fun h => h | exact fun h => bL h | exact fun h => bL (bL h) | exact fun h => bL (bL (bL h)))) rfl rfl (fun _ => hDi.2.1) rfl ?_)
      refine sCall c51 (cut_ok rest sep W (by omega) hDi.2.2) ?_
      rintro _ W2 ⟨rfl, hx2⟩
      generalize Lib.cut rest sep = c at hg hdr2 hcl hless
      obtain ⟨p, r2, m2⟩ := c
      simp only at hg hdr2 hcl hless
      try (first | refine gl tb ?_ | refine gg tb ?_ | refine ll tb ?_ | refine lg tb ?_); repeat ((first | refine G.condT rfl ?_ | refine G.condF rfl ?_ | refine sFa tb ?_ | refine sLd tb ?_ | refine sLa tb ?_ | refine sLen tb ?_ | refine sFd tb ?_ | refine sBd tb ?_ | refine sBa tb ?_); try (first | refine gl tb ?_ | refine gg tb ?_ | refine ll tb ?_ | refine lg tb ?_))
      refine GL.cons (Step.yield rfl (Op1.of rfl (by first | exact fun _ => rfl | exact fun h => h | exact fun h => bL h | exact fun h => bL (bL h) | exact fun h => bL (bL (bL h)))) rfl rfl rfl (hY i _ W2 hg (hI _ _ _ hIi hx2)) ?_)
      intro bb W3 hR
      cases bb with
      | true =>
        try (first | refine gl tb ?_ | refine gg tb ?_ | refine ll tb ?_ | refine lg tb ?_); repeat ((first | refine G.condT rfl ?_ | refine G.condF rfl ?_ | refine sFa tb ?_ | refine sLd tb ?_ | refine sLa tb ?_ | refine sLen tb ?_ | refine sFd tb ?_ | refine sBd tb ?_ | refine sBa tb ?_); try (first | refine gl tb ?_ | refine gg tb ?_ | refine ll tb ?_ | refine lg tb ?_))
        refine G.lp (x := (i, rest, true)) (i + 1, r2, m2) (by repeat (first | exact Sub.nil _ | refine Sub.cons rfl ?_)) ⟨hR, by simp only; omega, by simp only; omega, hdr2⟩ ?_
        simp only [if_true]
        cases m2 with
        | true => have := hless rfl; simp only [if_true]; omega
        | false => simp
      | false =>
        try (first | refine gl tb ?_ | refine gg tb ?_ | refine ll tb ?_ | refine lg tb ?_); repeat ((first | refine G.condT rfl ?_ | refine G.condF rfl ?_ | refine sFa tb ?_ | refine sLd tb ?_ | refine sLa tb ?_ | refine sLen tb ?_ | refine sFd tb ?_ | refine sBd tb ?_ | refine sBa tb ?_); try (first | refine gl tb ?_ | refine gg tb ?_ | refine ll tb ?_ | refine lg tb ?_))
        exact G.ret0 rfl rfl rfl (.inr hR)
    · have hsep : sep = [] := by simpa using hc
      have h1 : piecesL rest sep = [rest] := by unfold piecesL; rw [if_pos hsep]
      rw [h1] at hdr
      obtain ⟨hg, hdr2, hil⟩ := hget _ _ hdr
      rw [show (!decide (sep = [])) = false by simp [hsep]]
      try (first | refine gl tb ?_ | refine gg tb ?_ | refine ll tb ?_ | refine lg tb ?_); repeat ((first | refine G.condT rfl ?_ | refine G.condF rfl ?_ | refine sFa tb ?_ | refine sLd tb ?_ | refine sLa tb ?_ | refine sLen tb ?_ | refine sFd tb ?_ | refine sBd tb ?_ | refine sBa tb ?_); try (first | refine gl tb ?_ | refine gg tb ?_ | refine ll tb ?_ | refine lg tb ?_))
      refine GL.cons (Step.yield rfl (Op1.of rfl (by first | exact fun _ => rfl | exact fun h => h | exact fun h => bL h | exact fun h => bL (bL h) | exact fun h => bL (bL (bL h)))) rfl rfl rfl (hY i _ W hg hIi) ?_)
      intro bb W3 hR
      cases bb with
      | true =>
        try (first | refine gl tb ?_ | refine gg tb ?_ | refine ll tb ?_ | refine lg tb ?_); repeat ((first | refine G.condT rfl ?_ | refine G.condF rfl ?_ | refine sFa tb ?_ | refine sLd tb ?_ | refine sLa tb ?_ | refine sLen tb ?_ | refine sFd tb ?_ | refine sBd tb ?_ | refine sBa tb ?_); try (first | refine gl tb ?_ | refine gg tb ?_ | refine ll tb ?_ | refine lg tb ?_))
        refine G.lp (x := (i, rest, true)) (i + 1, rest, false) (by repeat (first | exact Sub.nil _ | refine Sub.cons rfl ?_)) ⟨hR, by simp only; omega, by simp only; omega, by simpa using hdr2⟩ ?_
        simp
      | false =>
        try (first | refine gl tb ?_ | refine gg tb ?_ | refine ll tb ?_ | refine lg tb ?_); repeat ((first | refine G.condT rfl ?_ | refine G.condF rfl ?_ | refine sFa tb ?_ | refine sLd tb ?_ | refine sLa tb ?_ | refine sLen tb ?_ | refine sFd tb ?_ | refine sBd tb ?_ | refine sBa tb ?_); try (first | refine gl tb ?_ | refine gg tb ?_ | refine ll tb ?_ | refine lg tb ?_))
        exact G.ret0 rfl rfl rfl (.inr hR)
end Go.Proofs.YtlaingmhdgpkdaaGreatDoor
