/- Texts cut at a separator, walked. -/
import Derived.Test.YtlaingmhdgpkdaaDoorWC
import Derived.Lib.IndexLaws
import Derived.Lib.IndexMore
open Go Go.Vg Go.RowKit Go.Proofs Go.Proofs.YtlaingmhdgpkdaaDoor
namespace Go.Proofs.YtlaingmhdgpkdaaDoor
set_option linter.unusedSimpArgs false

def MaxC (w : World) : Prop := ∃ m, w.cell? ⟨(Tryd.lays145_ren.g 1), 0, none⟩ = some (.int .i64 m)
theorem MaxC.to {w w' : World} (h : MaxC w) (hx : Ext w w') : MaxC w' := by
  obtain ⟨m, hm⟩ := h
  refine ⟨m, ?_⟩
  rw [Below.cell hx (block_lt_of_cell hm)]; exact hm
theorem cut_ok (s sep : List UInt8) (w : World) (hs : s.length ≤ 4000000000) (hM : MaxC w) :
    Ret Tryd.prog 27 ⟨[S s, S sep]⟩ w fun r w' => r = .tuple ⟨[S (Lib.cut s sep).1, S (Lib.cut s sep).2.1, .bool (Lib.cut s sep).2.2]⟩ ∧ Ext w w' := by
  obtain ⟨m, hm⟩ := hM
  refine Calls.mono (Any.strings_Cut Tryd.lays145 ⟨⟨s⟩⟩ ⟨⟨sep⟩⟩ m w (by show s.length < _; omega) hm) ?_
  rintro e w' ⟨he, n, rfl⟩
  exact ⟨_, he, rfl, ⟨rfl, rfl, rfl, Nat.le_refl _, fun _ _ => rfl⟩⟩

/-- a text's pieces between separators -/
def piecesF (sep : List UInt8) : Nat → List UInt8 → List (List UInt8)
  | 0, s => [s]
  | n + 1, s => if Lib.index s sep < 0 then [s] else s.take (Lib.index s sep).toNat :: piecesF sep n (s.drop ((Lib.index s sep).toNat + sep.length))
def piecesL (s sep : List UInt8) : List (List UInt8) := if sep = [] then [s] else piecesF sep s.length s
theorem index_nil {sep : List UInt8} (h : sep ≠ []) : Lib.index [] sep = -1 := by
  cases sep with
  | nil => exact absurd rfl h
  | cons a r => rfl
theorem piecesF_fuel {sep : List UInt8} (hsep : sep ≠ []) : ∀ (n m : Nat) (s : List UInt8), s.length ≤ n → s.length ≤ m → piecesF sep n s = piecesF sep m s := by
  have hl : 0 < sep.length := List.length_pos_iff.2 hsep
  intro n
  induction n with
  | zero =>
    intro m s h1 h2
    obtain rfl : s = [] := List.eq_nil_of_length_eq_zero (by omega)
    cases m with
    | zero => rfl
    | succ m => simp [piecesF, index_nil hsep]
  | succ n ih =>
    intro m s h1 h2
    cases m with
    | zero =>
      obtain rfl : s = [] := List.eq_nil_of_length_eq_zero (by omega)
      simp [piecesF, index_nil hsep]
    | succ m =>
      simp only [piecesF]
      by_cases h : Lib.index s sep < 0
      · rw [if_pos h, if_pos h]
      · rw [if_neg h, if_neg h]
        have hr := Lib.index_room s sep (by omega)
        rw [ih m _ (by rw [List.length_drop]; omega) (by rw [List.length_drop]; omega)]
theorem piecesL_step {s sep : List UInt8} (hsep : sep ≠ []) : piecesL s sep = if Lib.index s sep < 0 then [s] else s.take (Lib.index s sep).toNat :: piecesL (s.drop ((Lib.index s sep).toNat + sep.length)) sep := by
  have hl : 0 < sep.length := List.length_pos_iff.2 hsep
  have h1 : piecesL s sep = piecesF sep (s.length + 1) s := by
    unfold piecesL
    rw [if_neg hsep]
    exact piecesF_fuel hsep _ _ s (Nat.le_refl _) (by omega)
  rw [h1]
  simp only [piecesF]
  by_cases h : Lib.index s sep < 0
  · rw [if_pos h, if_pos h]
  · rw [if_neg h, if_neg h]
    unfold piecesL
    rw [if_neg hsep]
    rw [piecesF_fuel hsep _ _ _ (by rw [List.length_drop]; omega) (Nat.le_refl _)]
theorem piecesL_cut {s sep : List UInt8} (hsep : sep ≠ []) : piecesL s sep = (Lib.cut s sep).1 :: (if (Lib.cut s sep).2.2 = true then piecesL (Lib.cut s sep).2.1 sep else []) := by
  rw [piecesL_step hsep]
  unfold Lib.cut
  by_cases h : Lib.index s sep < 0
  · rw [if_pos h, if_neg (by omega)]; rfl
  · rw [if_neg h, if_pos (by omega)]; rfl
theorem cut_len (s sep : List UInt8) : (Lib.cut s sep).1.length ≤ s.length ∧ (Lib.cut s sep).2.1.length ≤ s.length := by
  unfold Lib.cut
  split
  · simp only [List.length_take, List.length_drop]; omega
  · simp
theorem cut_less {s sep : List UInt8} (hsep : sep ≠ []) (h : (Lib.cut s sep).2.2 = true) : (Lib.cut s sep).2.1.length < s.length := by
  have hl : 0 < sep.length := List.length_pos_iff.2 hsep
  unfold Lib.cut at h ⊢
  split at h
  · rename_i h0
    have hr := Lib.index_room s sep h0
    rw [if_pos h0]
    simp only [List.length_drop]; omega
  · cases h

theorem refIndex_ok (s sep : List UInt8) (w : World) (hs : s.length ≤ 4000000000) (hp : sep.length ≤ 9223372036854775807) (hsep : sep ≠ []) :
    Ret Tryd.prog 39 ⟨[S s, S sep]⟩ w fun r w' => r = .int .i64 (Lib.index s sep) ∧ w' = w := by
  have hl : 0 < sep.length := List.length_pos_iff.2 hsep
  refine ret_of_G Tryd.func39 rfl Tryd.ntmps39 rfl ?_
  simp only [argEnv]
  try (first | refine gl tb ?_ | refine gg tb ?_ | refine ll tb ?_ | refine lg tb ?_); repeat ((first | refine G.condT rfl ?_ | refine G.condF rfl ?_ | refine sFa tb ?_ | refine sLd tb ?_ | refine sLa tb ?_ | refine sLen tb ?_ | refine sFd tb ?_ | refine sBd tb ?_ | refine sBa tb ?_); try (first | refine gl tb ?_ | refine gg tb ?_ | refine ll tb ?_ | refine lg tb ?_))
  refine (G.loop (fun k : Nat => [(0, none, S s), (1, none, S sep), (5, none, .int .i64 k)]) (fun k w' => w' = w ∧ (k = 0 ∨ k + sep.length ≤ s.length + 1) ∧ Lib.NoOcc s sep k) (fun k => s.length + 2 - k) 0 (by repeat (first | exact Sub.nil _ | refine Sub.cons rfl ?_)) ⟨rfl, by omega, fun j hj => absurd hj (Nat.not_lt_zero _)⟩ ?_)
  rintro k w ⟨rfl, hk, hno⟩
  try (first | refine gl tb ?_ | refine gg tb ?_ | refine ll tb ?_ | refine lg tb ?_); repeat ((first | refine G.condT rfl ?_ | refine G.condF rfl ?_ | refine sFa tb ?_ | refine sLd tb ?_ | refine sLa tb ?_ | refine sLen tb ?_ | refine sFd tb ?_ | refine sBd tb ?_ | refine sBa tb ?_); try (first | refine gl tb ?_ | refine gg tb ?_ | refine ll tb ?_ | refine lg tb ?_))
  refine sAd tb ?_
  try (first | refine gl tb ?_ | refine gg tb ?_ | refine ll tb ?_ | refine lg tb ?_); repeat ((first | refine G.condT rfl ?_ | refine G.condF rfl ?_ | refine sFa tb ?_ | refine sLd tb ?_ | refine sLa tb ?_ | refine sLen tb ?_ | refine sFd tb ?_ | refine sBd tb ?_ | refine sBa tb ?_); try (first | refine gl tb ?_ | refine gg tb ?_ | refine ll tb ?_ | refine lg tb ?_))
  first | refine G.condD rfl (fun hc => ?_) (fun hc => ?_) | refine G.condN rfl (fun hc => ?_) (fun hc => ?_) | refine G.cond rfl (fun hc => ?_) (fun hc => ?_)
  · have hroom : k + sep.length ≤ s.length := by omega
    have hocc : decide ((s.drop k).take (k + sep.length - k) = sep) = Lib.occAt s sep k := by
      unfold Lib.occAt
      rw [Nat.add_sub_cancel_left]
      rw [Bool.eq_iff_iff]
      simp only [decide_eq_true_eq, List.isPrefixOf_iff_prefix, List.prefix_iff_eq_take]
      exact ⟨fun h => h.symm, fun h => h.symm⟩
    try (first | refine gl tb ?_ | refine gg tb ?_ | refine ll tb ?_ | refine lg tb ?_); repeat ((first | refine G.condT rfl ?_ | refine G.condF rfl ?_ | refine sFa tb ?_ | refine sLd tb ?_ | refine sLa tb ?_ | refine sLen tb ?_ | refine sFd tb ?_ | refine sBd tb ?_ | refine sBa tb ?_); try (first | refine gl tb ?_ | refine gg tb ?_ | refine ll tb ?_ | refine lg tb ?_))
    refine sAd tb ?_
    refine GL.cons (Step.sliceS tb k (k + sep.length) rfl (Op1.of rfl (by first | exact fun _ => rfl | exact fun h => h | exact fun h => bL h | exact fun h => bL (bL h) | exact fun h => bL (bL (bL h)))) (Op1.of rfl (by first | exact fun _ => rfl | exact fun h => h | exact fun h => bL h | exact fun h => bL (bL h) | exact fun h => bL (bL (bL h)))) (Op1.of rfl (by first | exact fun _ => rfl | exact fun h => h | exact fun h => bL h | exact fun h => bL (bL h) | exact fun h => bL (bL (bL h)))) rfl (fun _ => ⟨rfl, by omega, by omega, by omega⟩) rfl ?_)
    try (first | refine gl tb ?_ | refine gg tb ?_ | refine ll tb ?_ | refine lg tb ?_); repeat ((first | refine G.condT rfl ?_ | refine G.condF rfl ?_ | refine sFa tb ?_ | refine sLd tb ?_ | refine sLa tb ?_ | refine sLen tb ?_ | refine sFd tb ?_ | refine sBd tb ?_ | refine sBa tb ?_); try (first | refine gl tb ?_ | refine gg tb ?_ | refine ll tb ?_ | refine lg tb ?_))
    first | refine G.condD rfl (fun hc => ?_) (fun hc => ?_) | refine G.condN rfl (fun hc => ?_) (fun hc => ?_) | refine G.cond rfl (fun hc => ?_) (fun hc => ?_)
    · rw [decide_eq_true hc] at hocc
      have := Lib.index_hit hno (by omega) hocc.symm
      try (first | refine gl tb ?_ | refine gg tb ?_ | refine ll tb ?_ | refine lg tb ?_); repeat ((first | refine G.condT rfl ?_ | refine G.condF rfl ?_ | refine sFa tb ?_ | refine sLd tb ?_ | refine sLa tb ?_ | refine sLen tb ?_ | refine sFd tb ?_ | refine sBd tb ?_ | refine sBa tb ?_); try (first | refine gl tb ?_ | refine gg tb ?_ | refine ll tb ?_ | refine lg tb ?_))
      refine G.ret1 rfl rfl rfl rfl ?_
      exact ⟨by rw [this], rfl⟩
    · rw [decide_eq_false hc] at hocc
      try (first | refine gl tb ?_ | refine gg tb ?_ | refine ll tb ?_ | refine lg tb ?_); repeat ((first | refine G.condT rfl ?_ | refine G.condF rfl ?_ | refine sFa tb ?_ | refine sLd tb ?_ | refine sLa tb ?_ | refine sLen tb ?_ | refine sFd tb ?_ | refine sBd tb ?_ | refine sBa tb ?_); try (first | refine gl tb ?_ | refine gg tb ?_ | refine ll tb ?_ | refine lg tb ?_))
      refine sAd tb ?_
      try (first | refine gl tb ?_ | refine gg tb ?_ | refine ll tb ?_ | refine lg tb ?_); repeat ((first | refine G.condT rfl ?_ | refine G.condF rfl ?_ | refine sFa tb ?_ | refine sLd tb ?_ | refine sLa tb ?_ | refine sLen tb ?_ | refine sFd tb ?_ | refine sBd tb ?_ | refine sBa tb ?_); try (first | refine gl tb ?_ | refine gg tb ?_ | refine ll tb ?_ | refine lg tb ?_))
      refine G.lp (k + 1) (by repeat (first | exact Sub.nil _ | refine Sub.cons rfl ?_)) ⟨rfl, by omega, ?_⟩ (by omega)
      intro j hj
      by_cases e : j = k
      · subst e; exact hocc.symm
      · exact hno j (by omega)
  · have := Lib.index_past hsep hno (by omega)
    try (first | refine gl tb ?_ | refine gg tb ?_ | refine ll tb ?_ | refine lg tb ?_); repeat ((first | refine G.condT rfl ?_ | refine G.condF rfl ?_ | refine sFa tb ?_ | refine sLd tb ?_ | refine sLa tb ?_ | refine sLen tb ?_ | refine sFd tb ?_ | refine sBd tb ?_ | refine sBa tb ?_); try (first | refine gl tb ?_ | refine gg tb ?_ | refine ll tb ?_ | refine lg tb ?_))
    refine G.ret1 rfl rfl rfl rfl ?_
    exact ⟨by rw [this], rfl⟩
end Go.Proofs.YtlaingmhdgpkdaaDoor
