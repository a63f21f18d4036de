/- labels: sets held against each other, walked. -/
import Derived.Test.YtfffblopkaandaaDoorLCmp
open Go Go.Vg Go.RowKit Go.Proofs Go.Proofs.YtfffblopkaandaaDoor
namespace Go.Proofs.YtfffblopkaandaaDoor
set_option linter.unusedSimpArgs false

theorem strT : Tryd.prog.underlying 9 = some .string := tb.ok _ _ rfl
theorem strA (w : World) : (isAgg 9).run Tryd.prog w = .ok false w := run_isAgg strT w
theorem eqLab (x y : Lab) (fs : Array Field) (h : tb.ty 28 = some (.struct fs)) (w : World) : (Op.eqFields 9999 ⟨labC x⟩ ⟨labC y⟩ fs.toList).run Tryd.prog w = .ok (decide (x = y)) w := by
  cases h
  have e1 : ∀ w, (Op.equalIn 9999 9 (S x.1) (S y.1)).run Tryd.prog w = .ok (decide (x.1 = y.1)) w := fun w => by
    have := run_equalIn_string (P := Tryd.prog) w 9998 9 ⟨⟨x.1⟩⟩ ⟨⟨y.1⟩⟩ strT
    rw [toL, toL, beqL] at this; exact this
  have e2 : ∀ w, (Op.equalIn 9999 9 (S x.2) (S y.2)).run Tryd.prog w = .ok (decide (x.2 = y.2)) w := fun w => by
    have := run_equalIn_string (P := Tryd.prog) w 9998 9 ⟨⟨x.2⟩⟩ ⟨⟨y.2⟩⟩ strT
    rw [toL, toL, beqL] at this; exact this
  have e : decide (x = y) = (decide (x.1 = y.1) && decide (x.2 = y.2)) := by
    obtain ⟨a, b⟩ := x
    obtain ⟨a', b'⟩ := y
    simp [Prod.mk.injEq, Bool.decide_and]
  rw [e]
  simp only [labC, Op.eqFields, part, strA, Sem.run_bind, Result.andThen_ok]
  have h1 : decide (x.1 = y.1) = true ∨ decide (x.1 = y.1) = false := by cases decide (x.1 = y.1) <;> simp
  have h2 : decide (x.2 = y.2) = true ∨ decide (x.2 = y.2) = false := by cases decide (x.2 = y.2) <;> simp
  generalize decide (x.1 = y.1) = p1 at e1 h1 ⊢
  generalize decide (x.2 = y.2) = p2 at e2 h2 ⊢
  rcases h1 with rfl | rfl <;> rcases h2 with rfl | rfl <;> simp [strA, e1, e2]

def eqN (a b : List Lab) : Bool := decide (a = b)
theorem keepLabels_ok (v u : Value) (a b : List Lab) (w : World) (hv : Labs w v a) (hu : Labs w u b) :
    Ret Tryd.prog 21 ⟨[v, u]⟩ w fun r w' => r = .bool (eqN a b) ∧ Ext w w' := by
  have hbd := Labs.bound hv
  have hbd2 := Labs.bound hu
  refine ret_of_G Tryd.func21 rfl Tryd.ntmps21 rfl ?_
  simp only [argEnv]
  try (first | refine gl tb ?_ | refine gg tb ?_ | refine ll tb ?_ | refine lg tb ?_); repeat ((first | refine G.condT rfl ?_ | refine G.condF rfl ?_ | refine sFa tb ?_ | refine sLd tb ?_ | refine sLa tb ?_ | refine sLen tb ?_ | refine sFd tb ?_ | refine sBd tb ?_ | refine sBa tb ?_); try (first | refine gl tb ?_ | refine gg tb ?_ | refine ll tb ?_ | refine lg tb ?_))
  rw [List.length_map, List.length_map]
  try (first | refine gl tb ?_ | refine gg tb ?_ | refine ll tb ?_ | refine lg tb ?_); repeat ((first | refine G.condT rfl ?_ | refine G.condF rfl ?_ | refine sFa tb ?_ | refine sLd tb ?_ | refine sLa tb ?_ | refine sLen tb ?_ | refine sFd tb ?_ | refine sBd tb ?_ | refine sBa tb ?_); try (first | refine gl tb ?_ | refine gg tb ?_ | refine ll tb ?_ | refine lg tb ?_))
  first | refine G.condD rfl (fun hc => ?_) (fun hc => ?_) | refine G.condN rfl (fun hc => ?_) (fun hc => ?_) | refine G.cond rfl (fun hc => ?_) (fun hc => ?_)
  · have hne : eqN a b = false := by
      refine decide_eq_false fun e => hc ?_
      rw [e]
    try (first | refine gl tb ?_ | refine gg tb ?_ | refine ll tb ?_ | refine lg tb ?_); repeat ((first | refine G.condT rfl ?_ | refine G.condF rfl ?_ | refine sFa tb ?_ | refine sLd tb ?_ | refine sLa tb ?_ | refine sLen tb ?_ | refine sFd tb ?_ | refine sBd tb ?_ | refine sBa tb ?_); try (first | refine gl tb ?_ | refine gg tb ?_ | refine ll tb ?_ | refine lg tb ?_))
    refine G.ret1 rfl rfl rfl rfl ?_
    exact ⟨by rw [hne], Ext.refl _⟩
  · try (first | refine gl tb ?_ | refine gg tb ?_ | refine ll tb ?_ | refine lg tb ?_); repeat ((first | refine G.condT rfl ?_ | refine G.condF rfl ?_ | refine sFa tb ?_ | refine sLd tb ?_ | refine sLa tb ?_ | refine sLen tb ?_ | refine sFd tb ?_ | refine sBd tb ?_ | refine sBa tb ?_); try (first | refine gl tb ?_ | refine gg tb ?_ | refine ll tb ?_ | refine lg tb ?_))
    refine (G.loop (fun k : Nat => [(0, none, v), (1, none, u), (5, none, .int .i64 k)]) (fun k w' => Ext w w' ∧ k ≤ a.length ∧ a.take k = b.take k) (fun k => a.length - k) 0 (by repeat (first | exact Sub.nil _ | refine Sub.cons rfl ?_)) ⟨Ext.refl _, by omega, by simp⟩ ?_)
    rintro k w1 ⟨hx1, hk, hto⟩
    have hv1 := hv.to hx1
    have hu1 := hu.to hx1
    try (first | refine gl tb ?_ | refine gg tb ?_ | refine ll tb ?_ | refine lg tb ?_); repeat ((first | refine G.condT rfl ?_ | refine G.condF rfl ?_ | refine sFa tb ?_ | refine sLd tb ?_ | refine sLa tb ?_ | refine sLen tb ?_ | refine sFd tb ?_ | refine sBd tb ?_ | refine sBa tb ?_); try (first | refine gl tb ?_ | refine gg tb ?_ | refine ll tb ?_ | refine lg tb ?_))
    rw [List.length_map]
    have hc0 := hc
    try (first | refine gl tb ?_ | refine gg tb ?_ | refine ll tb ?_ | refine lg tb ?_); repeat ((first | refine G.condT rfl ?_ | refine G.condF rfl ?_ | refine sFa tb ?_ | refine sLd tb ?_ | refine sLa tb ?_ | refine sLen tb ?_ | refine sFd tb ?_ | refine sBd tb ?_ | refine sBa tb ?_); try (first | refine gl tb ?_ | refine gg tb ?_ | refine ll tb ?_ | refine lg tb ?_))
    first | refine G.condD rfl (fun hc => ?_) (fun hc => ?_) | refine G.condN rfl (fun hc => ?_) (fun hc => ?_) | refine G.cond rfl (fun hc => ?_) (fun hc => ?_)
    · have hlt : k < a.length := by omega
      have hlt2 : k < b.length := by omega
      obtain ⟨x, hgx, hdx⟩ := getX hlt
      obtain ⟨y, hgy, hdy⟩ := getX hlt2
      try (first | refine gl tb ?_ | refine gg tb ?_ | refine ll tb ?_ | refine lg tb ?_); repeat ((first | refine G.condT rfl ?_ | refine G.condF rfl ?_ | refine sFa tb ?_ | refine sLd tb ?_ | refine sLa tb ?_ | refine sLen tb ?_ | refine sFd tb ?_ | refine sBd tb ?_ | refine sBa tb ?_); try (first | refine gl tb ?_ | refine gg tb ?_ | refine ll tb ?_ | refine lg tb ?_))
      refine G.regionM [(0, true), (1, true), (2, true), (3, true), (4, true), (5, true), (6, true), (7, true), (8, true)] (Ext w1) (by kernel_rfl) (by kernel_rfl) rfl mixed (Ext.drew w1) rfl ?_
      try (refine mm tb ?_); repeat ((first | refine dFa tb ?_ | refine dLd tb ?_ | refine dLa tb ?_ | refine dLen tb ?_ | refine dFd tb ?_ | refine dIa tb k ?_); try (refine mm tb ?_))
      refine GM.read (fun w' hS => Step.eqSt tb rfl (Op1.of rfl (by first | exact fun _ => rfl | exact fun h => h | exact fun h => bL h | exact fun h => bL (bL h) | exact fun h => bL (bL (bL h)))) (Op1.of rfl (by first | exact fun _ => rfl | exact fun h => h | exact fun h => bL h | exact fun h => bL (bL h) | exact fun h => bL (bL (bL h)))) rfl (by kernel_rfl) (by kernel_rfl) (eqLab x y _ rfl) rfl (.inr rfl) ⟨rfl, rfl⟩) rfl rfl ?_
      refine GM.nil ?_
      have hx2 := hx1.drew'
      generalize w1.drew = w2 at hx2 ⊢
      try (first | refine gl tb ?_ | refine gg tb ?_ | refine ll tb ?_ | refine lg tb ?_); repeat ((first | refine G.condT rfl ?_ | refine G.condF rfl ?_ | refine sFa tb ?_ | refine sLd tb ?_ | refine sLa tb ?_ | refine sLen tb ?_ | refine sFd tb ?_ | refine sBd tb ?_ | refine sBa tb ?_); try (first | refine gl tb ?_ | refine gg tb ?_ | refine ll tb ?_ | refine lg tb ?_))
      first | refine G.condD rfl (fun hc => ?_) (fun hc => ?_) | refine G.condN rfl (fun hc => ?_) (fun hc => ?_) | refine G.cond rfl (fun hc => ?_) (fun hc => ?_)
      · have hne : eqN a b = false := by
          refine decide_eq_false fun e => hc ?_
          subst e
          rw [hdx] at hdy
          exact (List.cons.inj hdy).1
        try (first | refine gl tb ?_ | refine gg tb ?_ | refine ll tb ?_ | refine lg tb ?_); repeat ((first | refine G.condT rfl ?_ | refine G.condF rfl ?_ | refine sFa tb ?_ | refine sLd tb ?_ | refine sLa tb ?_ | refine sLen tb ?_ | refine sFd tb ?_ | refine sBd tb ?_ | refine sBa tb ?_); try (first | refine gl tb ?_ | refine gg tb ?_ | refine ll tb ?_ | refine lg tb ?_))
        refine G.ret1 rfl rfl rfl rfl ?_
        exact ⟨by rw [hne], hx2⟩
      · subst hc
        try (first | refine gl tb ?_ | refine gg tb ?_ | refine ll tb ?_ | refine lg tb ?_); repeat ((first | refine G.condT rfl ?_ | refine G.condF rfl ?_ | refine sFa tb ?_ | refine sLd tb ?_ | refine sLa tb ?_ | refine sLen tb ?_ | refine sFd tb ?_ | refine sBd tb ?_ | refine sBa tb ?_); try (first | refine gl tb ?_ | refine gg tb ?_ | refine ll tb ?_ | refine lg tb ?_))
        refine sAd tb ?_
        try (first | refine gl tb ?_ | refine gg tb ?_ | refine ll tb ?_ | refine lg tb ?_); repeat ((first | refine G.condT rfl ?_ | refine G.condF rfl ?_ | refine sFa tb ?_ | refine sLd tb ?_ | refine sLa tb ?_ | refine sLen tb ?_ | refine sFd tb ?_ | refine sBd tb ?_ | refine sBa tb ?_); try (first | refine gl tb ?_ | refine gg tb ?_ | refine ll tb ?_ | refine lg tb ?_))
        refine G.lp (k + 1) (by repeat (first | exact Sub.nil _ | refine Sub.cons rfl ?_)) ⟨hx2, by omega, ?_⟩ (by omega)
        rw [List.take_succ_eq_append_getElem hlt, List.take_succ_eq_append_getElem hlt2, hto]
        have h1 : a[k] = x := by rw [List.drop_eq_getElem_cons hlt] at hdx; exact (List.cons.inj hdx).1
        have h2 : b[k] = x := by rw [List.drop_eq_getElem_cons hlt2] at hdy; exact (List.cons.inj hdy).1
        rw [h1, h2]
    · have hke : k = a.length := by omega
      have hkb : k = b.length := by omega
      try (first | refine gl tb ?_ | refine gg tb ?_ | refine ll tb ?_ | refine lg tb ?_); repeat ((first | refine G.condT rfl ?_ | refine G.condF rfl ?_ | refine sFa tb ?_ | refine sLd tb ?_ | refine sLa tb ?_ | refine sLen tb ?_ | refine sFd tb ?_ | refine sBd tb ?_ | refine sBa tb ?_); try (first | refine gl tb ?_ | refine gg tb ?_ | refine ll tb ?_ | refine lg tb ?_))
      refine G.ret1 rfl rfl rfl rfl ?_
      refine ⟨?_, hx1⟩
      rw [List.take_of_length_le (by omega), List.take_of_length_le (by omega)] at hto
      rw [hto]; simp [eqN]
end Go.Proofs.YtfffblopkaandaaDoor
