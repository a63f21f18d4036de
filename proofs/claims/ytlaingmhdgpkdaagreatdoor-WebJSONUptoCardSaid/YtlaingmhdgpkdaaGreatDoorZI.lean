/- Labels and texts held side by side; parameters asked by name; walked. -/
import Derived.Test.YtlaingmhdgpkdaaGreatDoorZH
open Go Go.Vg Go.RowKit Go.Proofs Go.Proofs.YtlaingmhdgpkdaaGreatDoor
namespace Go.Proofs.YtlaingmhdgpkdaaGreatDoor
set_option linter.unusedSimpArgs false

theorem Labs.bound {w : World} {v : Value} {ls : List Lab} (h : Labs w v ls) : ls.length ≤ 9223372036854775807 := by have := Sli.bound h; simpa using this
theorem getX {ls : List Lab} {k : Nat} (h : k < ls.length) : ∃ x, (ls.map labC)[k]? = some (labC x) ∧ ls.drop k = x :: ls.drop (k + 1) :=
  ⟨ls[k], by simp [h], List.drop_eq_getElem_cons h⟩
theorem take_snoc {α : Type} {l : List α} {k : Nat} (h : k < l.length) : l.take (k + 1) = l.take k ++ [l[k]] := by rw [List.take_succ_eq_append_getElem h]
theorem Labs.at {ls : List Lab} {k : Nat} (h : k < ls.length) : ∃ x, x ∈ ls ∧ (ls.map labC)[k]? = some (labC x) ∧ ls.take (k + 1) = ls.take k ++ [x] ∧ ls.drop k = x :: ls.drop (k + 1) ∧ ls[k]? = some x :=
  ⟨ls[k], List.getElem_mem h, by simp [h], by rw [List.take_succ_eq_append_getElem h], List.drop_eq_getElem_cons h, by simp [h]⟩
theorem strT : Tryz.prog.underlying 9 = some .string := tb.ok _ _ rfl
theorem strA (w : World) : (isAgg 9).run Tryz.prog w = .ok false w := run_isAgg strT w
theorem eqLab (x y : Lab) (fs : Array Field) (h : tb.ty 64 = some (.struct fs)) (w : World) : (Op.eqFields 9999 ⟨labC x⟩ ⟨labC y⟩ fs.toList).run Tryz.prog w = .ok (decide (x = y)) w := by
  cases h
  have e1 : ∀ w, (Op.equalIn 9999 9 (S x.1) (S y.1)).run Tryz.prog w = .ok (decide (x.1 = y.1)) w := fun w => by
    have := run_equalIn_string (P := Tryz.prog) w 9998 9 ⟨⟨x.1⟩⟩ ⟨⟨y.1⟩⟩ strT
    rw [toL, toL, beqL] at this; exact this
  have e2 : ∀ w, (Op.equalIn 9999 9 (S x.2) (S y.2)).run Tryz.prog w = .ok (decide (x.2 = y.2)) w := fun w => by
    have := run_equalIn_string (P := Tryz.prog) w 9998 9 ⟨⟨x.2⟩⟩ ⟨⟨y.2⟩⟩ strT
    rw [toL, toL, beqL] at this; exact this
  have e : decide (x = y) = (decide (x.1 = y.1) && decide (x.2 = y.2)) := by
    obtain ⟨a, b⟩ := x
    obtain ⟨a', b'⟩ := y
    simp [Prod.mk.injEq, Bool.decide_and]
  rw [e]
  simp only [labC, Op.eqFields, part, strA, Sem.run_bind, Result.andThen_ok]
  have h1 : decide (x.1 = y.1) = true ∨ decide (x.1 = y.1) = false := by cases decide (x.1 = y.1) <;> simp
  have h2 : decide (x.2 = y.2) = true ∨ decide (x.2 = y.2) = false := by cases decide (x.2 = y.2) <;> simp
  generalize decide (x.1 = y.1) = p1 at e1 h1 ⊢
  generalize decide (x.2 = y.2) = p2 at e2 h2 ⊢
  rcases h1 with rfl | rfl <;> rcases h2 with rfl | rfl <;> simp [strA, e1, e2]

def eqN (a b : List Lab) : Bool := decide (a = b)
/-- a request's cells -/
def reqC (m p : List UInt8) (v : Value) : List Value := [S m, S p, v]
def allP (ls : List Lab) (name : List UInt8) : List (List UInt8) := (ls.filter fun x => decide (x.1 = name)).map (·.2)
theorem allP_snoc (ls : List Lab) (name : List UInt8) (x : Lab) : allP (ls ++ [x]) name = if x.1 = name then allP ls name ++ [x.2] else allP ls name := by
  by_cases h : x.1 = name <;> simp [allP, h]
theorem allP_len (ls : List Lab) (name : List UInt8) : (allP ls name).length ≤ ls.length := by
  unfold allP; rw [List.length_map]; exact List.length_filter_le ..

theorem getAll_ok (m p name : List UInt8) (v : Value) (ls : List Lab) (w : World) (hv : Labs w v ls) (hn : ls.length ≤ 1000000000) :
    Ret Tryz.prog 60 ⟨[.agg ⟨reqC m p v⟩, S name]⟩ w fun r w' => SO w' w.heap.size r (allP ls name) ∧ Ext w w' := by
  refine ret_of_G Tryz.func60 rfl Tryz.ntmps60 rfl ?_
  simp only [argEnv]
  try (first | refine gl tb ?_ | refine gg tb ?_ | refine ll tb ?_ | refine lg tb ?_); repeat ((first | refine G.condT rfl ?_ | refine G.condF rfl ?_ | refine sFa tb ?_ | refine sLd tb ?_ | refine sLa tb ?_ | refine sLen tb ?_ | refine sFd tb ?_ | refine sBd tb ?_ | refine sBa tb ?_); try (first | refine gl tb ?_ | refine gg tb ?_ | refine ll tb ?_ | refine lg tb ?_))
  refine sBox ?_
  intro w1 hb1 hs1 hx1
  have hv1 := hv.to hx1
  try (first | refine gl tb ?_ | refine gg tb ?_ | refine ll tb ?_ | refine lg tb ?_); repeat ((first | refine G.condT rfl ?_ | refine G.condF rfl ?_ | refine sFa tb ?_ | refine sLd tb ?_ | refine sLa tb ?_ | refine sLen tb ?_ | refine sFd tb ?_ | refine sBd tb ?_ | refine sBa tb ?_); try (first | refine gl tb ?_ | refine gg tb ?_ | refine ll tb ?_ | refine lg tb ?_))
  rw [List.length_map]
  try (first | refine gl tb ?_ | refine gg tb ?_ | refine ll tb ?_ | refine lg tb ?_); repeat ((first | refine G.condT rfl ?_ | refine G.condF rfl ?_ | refine sFa tb ?_ | refine sLd tb ?_ | refine sLa tb ?_ | refine sLen tb ?_ | refine sFd tb ?_ | refine sBd tb ?_ | refine sBa tb ?_); try (first | refine gl tb ?_ | refine gg tb ?_ | refine ll tb ?_ | refine lg tb ?_))
  refine (G.loop (fun x : Nat × Value => [(1, none, S name), (5, none, x.2), (9, none, v), (10, none, .int .i64 ls.length), (11, none, .int .i64 x.1)]) (fun x W => Ext w1 W ∧ x.1 ≤ ls.length ∧ SO W w1.heap.size x.2 (allP (ls.take x.1) name)) (fun x => ls.length - x.1) (0, .slice none 0 0) (by repeat (first | exact Sub.nil _ | refine Sub.cons rfl ?_)) ⟨Ext.refl _, by simp, Owns.nil _ _ _ _⟩ ?_)
  rintro ⟨k, s⟩ W ⟨hx, hk, ho⟩
  simp only at hk ho ⊢
  have hvW := hv1.to hx
  try (first | refine gl tb ?_ | refine gg tb ?_ | refine ll tb ?_ | refine lg tb ?_); repeat ((first | refine G.condT rfl ?_ | refine G.condF rfl ?_ | refine sFa tb ?_ | refine sLd tb ?_ | refine sLa tb ?_ | refine sLen tb ?_ | refine sFd tb ?_ | refine sBd tb ?_ | refine sBa tb ?_); try (first | refine gl tb ?_ | refine gg tb ?_ | refine ll tb ?_ | refine lg tb ?_))
  first | refine G.condD rfl (fun hc => ?_) (fun hc => ?_) | refine G.condN rfl (fun hc => ?_) (fun hc => ?_) | refine G.cond rfl (fun hc => ?_) (fun hc => ?_)
  · have hlt : k < ls.length := by omega
    obtain ⟨x, hmem, hget, htk, -, -⟩ := Labs.at hlt
    have hst := allP_snoc (ls.take k) name x
    rw [← htk] at hst
    have hln := allP_len (ls.take k) name
    rw [List.length_take] at hln
    generalize allP (ls.take k) name = out at ho hst hln
    try (first | refine gl tb ?_ | refine gg tb ?_ | refine ll tb ?_ | refine lg tb ?_); repeat ((first | refine G.condT rfl ?_ | refine G.condF rfl ?_ | refine sFa tb ?_ | refine sLd tb ?_ | refine sLa tb ?_ | refine sLen tb ?_ | refine sFd tb ?_ | refine sBd tb ?_ | refine sIa tb k ?_); try (first | refine gl tb ?_ | refine gg tb ?_ | refine ll tb ?_ | refine lg tb ?_))
    refine sAl tb ?_
    intro w3 hb3 hs3 hx3
    refine sSt tb ?_ (vs := labC x) (hv := rfl) (hb := hb3) (h1 := by simp [Value.oneCell', S, labC])
    intro w4 hb4 hw4
    have hx24 : Ext W w4 := Below.wr hx3 hw4 (Nat.le_refl _)
    have hx4 := hx.trans hx24
    have ho4 := ho.to hx24
    try (first | refine gl tb ?_ | refine gg tb ?_ | refine ll tb ?_ | refine lg tb ?_); repeat ((first | refine G.condT rfl ?_ | refine G.condF rfl ?_ | refine sFa tb ?_ | refine sLd tb ?_ | refine sLa tb ?_ | refine sLen tb ?_ | refine sFd tb ?_ | refine sBd tb ?_ | refine sBa tb ?_); try (first | refine gl tb ?_ | refine gg tb ?_ | refine ll tb ?_ | refine lg tb ?_))
    first | refine G.condD rfl (fun hc => ?_) (fun hc => ?_) | refine G.condN rfl (fun hc => ?_) (fun hc => ?_) | refine G.cond rfl (fun hc => ?_) (fun hc => ?_)
    · rw [if_pos hc] at hst
      try (first | refine gl tb ?_ | refine gg tb ?_ | refine ll tb ?_ | refine lg tb ?_); repeat ((first | refine G.condT rfl ?_ | refine G.condF rfl ?_ | refine sFa tb ?_ | refine sLd tb ?_ | refine sLa tb ?_ | refine sLen tb ?_ | refine sFd tb ?_ | refine sBd tb ?_ | refine sBa tb ?_); try (first | refine gl tb ?_ | refine gg tb ?_ | refine ll tb ?_ | refine lg tb ?_))
      refine sBs' tb [strC x.2] ?_ (hkl := strC_k [_])
      intro v5 w5 ho5 hs5 hx5
      have hx05 := hx4.trans hx5
      refine sApp tb (ho4.to hx5) ho5.sli ?_ (h1 := str1 [_]) (hB := hx05.size)
      intro v6 w6 ho6 hg6
      try (first | refine gl tb ?_ | refine gg tb ?_ | refine ll tb ?_ | refine lg tb ?_); repeat ((first | refine G.condT rfl ?_ | refine G.condF rfl ?_ | refine sFa tb ?_ | refine sLd tb ?_ | refine sLa tb ?_ | refine sLen tb ?_ | refine sFd tb ?_ | refine sBd tb ?_ | refine sBa tb ?_); try (first | refine gl tb ?_ | refine gg tb ?_ | refine ll tb ?_ | refine lg tb ?_))
      refine sAd tb ?_
      try (first | refine gl tb ?_ | refine gg tb ?_ | refine ll tb ?_ | refine lg tb ?_); repeat ((first | refine G.condT rfl ?_ | refine G.condF rfl ?_ | refine sFa tb ?_ | refine sLd tb ?_ | refine sLa tb ?_ | refine sLen tb ?_ | refine sFd tb ?_ | refine sBd tb ?_ | refine sBa tb ?_); try (first | refine gl tb ?_ | refine gg tb ?_ | refine ll tb ?_ | refine lg tb ?_))
      refine G.lp (x := (k, s)) (k + 1, v6) (by repeat (first | exact Sub.nil _ | refine Sub.cons rfl ?_)) ⟨hg6.below _ hx05, by simp only; omega, ?_⟩ (by simp only; omega)
      simp only [hst]
      unfold SO; rw [List.map_append]; exact ho6
    · rw [if_neg hc] at hst
      try (first | refine gl tb ?_ | refine gg tb ?_ | refine ll tb ?_ | refine lg tb ?_); repeat ((first | refine G.condT rfl ?_ | refine G.condF rfl ?_ | refine sFa tb ?_ | refine sLd tb ?_ | refine sLa tb ?_ | refine sLen tb ?_ | refine sFd tb ?_ | refine sBd tb ?_ | refine sBa tb ?_); try (first | refine gl tb ?_ | refine gg tb ?_ | refine ll tb ?_ | refine lg tb ?_))
      refine sAd tb ?_
      try (first | refine gl tb ?_ | refine gg tb ?_ | refine ll tb ?_ | refine lg tb ?_); repeat ((first | refine G.condT rfl ?_ | refine G.condF rfl ?_ | refine sFa tb ?_ | refine sLd tb ?_ | refine sLa tb ?_ | refine sLen tb ?_ | refine sFd tb ?_ | refine sBd tb ?_ | refine sBa tb ?_); try (first | refine gl tb ?_ | refine gg tb ?_ | refine ll tb ?_ | refine lg tb ?_))
      exact G.lp (x := (k, s)) (k + 1, s) (by repeat (first | exact Sub.nil _ | refine Sub.cons rfl ?_)) ⟨hx4, by simp only; omega, by simp only [hst]; exact ho4⟩ (by simp only; omega)
  · try (first | refine gl tb ?_ | refine gg tb ?_ | refine ll tb ?_ | refine lg tb ?_); repeat ((first | refine G.condT rfl ?_ | refine G.condF rfl ?_ | refine sFa tb ?_ | refine sLd tb ?_ | refine sLa tb ?_ | refine sLen tb ?_ | refine sFd tb ?_ | refine sBd tb ?_ | refine sBa tb ?_); try (first | refine gl tb ?_ | refine gg tb ?_ | refine ll tb ?_ | refine lg tb ?_))
    refine G.ret1 rfl rfl rfl rfl ?_
    obtain rfl : k = ls.length := by omega
    rw [List.take_length] at ho
    exact ⟨ho.mono hx1.size, hx1.trans hx⟩
end Go.Proofs.YtlaingmhdgpkdaaGreatDoor
