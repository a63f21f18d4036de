/- What a window's samples have grown by, at fixed samples: walked. -/
import Derived.Test.YtbnckhfkkoncbaaFTb
import Derived.Test.YtbnckhfkkoncbaaV35
import Derived.Test.YtbnckhfkkoncbaaGV2
import Derived.KernelRfl
open Go Go.Vg Go.RowKit Go.Proofs Go.Proofs.Ytbnckhfkkoncbaa
namespace Go.Proofs.Ytbnckhfkkoncbaa
set_option linter.unusedSimpArgs false

theorem stale_ok (b : Nat) (w : World) : Ret Try.prog 65 ⟨[Fl b]⟩ w fun r w' => r = .bool (decide ((b : Int) = 9218868437227405314)) ∧ w' = w := by
  refine ret_of_G Try.func65 rfl Try.ntmps65 rfl ?_
  simp only [argEnv]
  try (first | refine gl tb ?_ | refine gg tb ?_ | refine ll tb ?_ | refine lg tb ?_); repeat ((first | refine G.condT rfl ?_ | refine G.condF rfl ?_ | refine sFa tb ?_ | refine sLd tb ?_ | refine sLa tb ?_ | refine sLen tb ?_ | refine sFd tb ?_ | refine sBd tb ?_ | refine sBa tb ?_); try (first | refine gl tb ?_ | refine gg tb ?_ | refine ll tb ?_ | refine lg tb ?_))
  refine GL.cons (Step.ext rfl rfl (by repeat (first | exact OpL.nil | refine OpL.cons (Op1.of rfl (by first | exact fun _ => rfl | exact fun h => h | exact fun h => bL h | exact fun h => bL (bL h) | exact fun h => bL (bL (bL h)))) ?_)) (run_fbits Try.func45 (by kernel_rfl) (by kernel_rfl) (by kernel_rfl) (by kernel_rfl) b _) rfl ?_)
  try (first | refine gl tb ?_ | refine gg tb ?_ | refine ll tb ?_ | refine lg tb ?_); repeat ((first | refine G.condT rfl ?_ | refine G.condF rfl ?_ | refine sFa tb ?_ | refine sLd tb ?_ | refine sLa tb ?_ | refine sLen tb ?_ | refine sFd tb ?_ | refine sBd tb ?_ | refine sBa tb ?_); try (first | refine gl tb ?_ | refine gg tb ?_ | refine ll tb ?_ | refine lg tb ?_))
  refine G.ret1 rfl rfl rfl rfl ?_
  exact ⟨rfl, rfl⟩
theorem seconds_ok (a b : Int) (f r : Nat) (w : World) (ha : 0 ≤ a ∧ a ≤ 1000000) (hb : 0 ≤ b ∧ b ≤ 1000000) (h1 : floatOfInt .f64 (b - a) = f) (h2 : floatBits .quo .f64 f 4652007308841189376 = some r) : Ret Try.prog 86 ⟨[.int .i64 a, .int .i64 b]⟩ w fun v w' => v = Fl r ∧ w' = w := by
  refine ret_of_G Try.func86 rfl Try.ntmps86 rfl ?_
  simp only [argEnv]
  try (first | refine gl tb ?_ | refine gg tb ?_ | refine ll tb ?_ | refine lg tb ?_); repeat ((first | refine G.condT rfl ?_ | refine G.condF rfl ?_ | refine sFa tb ?_ | refine sLd tb ?_ | refine sLa tb ?_ | refine sLen tb ?_ | refine sFd tb ?_ | refine sBd tb ?_ | refine sBa tb ?_); try (first | refine gl tb ?_ | refine gg tb ?_ | refine ll tb ?_ | refine lg tb ?_))
  refine sAd tb ?_
  refine GL.cons (Step.i2f tb rfl (Op1.of rfl (by first | exact fun _ => rfl | exact fun h => h | exact fun h => bL h | exact fun h => bL (bL h) | exact fun h => bL (bL (bL h)))) rfl rfl h1 rfl ?_)
  refine GL.cons (Step.flt rfl (Op1.of rfl (by first | exact fun _ => rfl | exact fun h => h | exact fun h => bL h | exact fun h => bL (bL h) | exact fun h => bL (bL (bL h)))) (Op1.of rfl (by first | exact fun _ => rfl | exact fun h => h | exact fun h => bL h | exact fun h => bL (bL h) | exact fun h => bL (bL (bL h)))) h2 rfl ?_)
  try (first | refine gl tb ?_ | refine gg tb ?_ | refine ll tb ?_ | refine lg tb ?_); repeat ((first | refine G.condT rfl ?_ | refine G.condF rfl ?_ | refine sFa tb ?_ | refine sLd tb ?_ | refine sLa tb ?_ | refine sLen tb ?_ | refine sFd tb ?_ | refine sBd tb ?_ | refine sBa tb ?_); try (first | refine gl tb ?_ | refine gg tb ?_ | refine ll tb ?_ | refine lg tb ?_))
  refine G.ret1 rfl rfl rfl rfl ?_
  exact ⟨rfl, rfl⟩
abbrev Smp := Int × Nat
def smpC (x : Smp) : List Value := [.int .i64 x.1, Fl x.2]
abbrev Smps (w : World) (v : Value) (xs : List Smp) : Prop := Sli w v 2 (xs.map smpC)
abbrev SmpO (w : World) (B : Nat) (v : Value) (xs : List Smp) : Prop := Owns w B v 26 2 (xs.map smpC)
theorem smp1 (xs : List Smp) : ∀ y ∈ xs.map smpC, ∀ c ∈ y, c.oneCell' = true := by
  intro y hy c hc
  obtain ⟨x, _, rfl⟩ := List.mem_map.1 hy
  simp only [smpC, List.mem_cons, List.not_mem_nil, or_false] at hc
  rcases hc with rfl | rfl <;> rfl
theorem smpLen (xs : List Smp) : ∀ y ∈ xs.map smpC, y.length = 2 := by
  intro y hy
  obtain ⟨x, _, rfl⟩ := List.mem_map.1 hy
  rfl
def freshB (a b : Int) (x : Smp) : Bool := decide (a < x.1) && decide (x.1 ≤ b) && !decide ((x.2 : Int) = 9218868437227405314)
theorem fresh_ok (v : Value) (xs : List Smp) (a b : Int) (w : World) (hv : Smps w v xs) (hl : xs.length ≤ 1000) :
    Ret Try.prog 37 ⟨[v, .int .i64 a, .int .i64 b]⟩ w fun r w' => SmpO w' w.heap.size r (xs.filter (freshB a b)) ∧ Ext w w' := by
  refine ret_of_G Try.func37 rfl Try.ntmps37 rfl ?_
  simp only [argEnv]
  try (first | refine gl tb ?_ | refine gg tb ?_ | refine ll tb ?_ | refine lg tb ?_); repeat ((first | refine G.condT rfl ?_ | refine G.condF rfl ?_ | refine sFa tb ?_ | refine sLd tb ?_ | refine sLa tb ?_ | refine sLen tb ?_ | refine sFd tb ?_ | refine sBd tb ?_ | refine sBa tb ?_); try (first | refine gl tb ?_ | refine gg tb ?_ | refine ll tb ?_ | refine lg tb ?_))
  rw [List.length_map]
  try (first | refine gl tb ?_ | refine gg tb ?_ | refine ll tb ?_ | refine lg tb ?_); repeat ((first | refine G.condT rfl ?_ | refine G.condF rfl ?_ | refine sFa tb ?_ | refine sLd tb ?_ | refine sLa tb ?_ | refine sLen tb ?_ | refine sFd tb ?_ | refine sBd tb ?_ | refine sBa tb ?_); try (first | refine gl tb ?_ | refine gg tb ?_ | refine ll tb ?_ | refine lg tb ?_))
  refine (G.loop (fun x : Nat × Value => [(1, none, .int .i64 a), (2, none, .int .i64 b), (7, none, x.2), (10, none, v), (11, none, .int .i64 xs.length), (12, none, .int .i64 x.1)]) (fun x W => Ext w W ∧ x.1 ≤ xs.length ∧ SmpO W w.heap.size x.2 ((xs.take x.1).filter (freshB a b))) (fun x => xs.length - x.1) (0, .slice none 0 0) (by repeat (first | exact Sub.nil _ | refine Sub.cons rfl ?_)) ⟨Ext.refl _, by simp, Owns.nil _ _ _ _⟩ ?_)
  rintro ⟨k, s⟩ W ⟨hx, hk, hs⟩
  simp only at hk hs ⊢
  have hvW := hv.to hx
  try (first | refine gl tb ?_ | refine gg tb ?_ | refine ll tb ?_ | refine lg tb ?_); repeat ((first | refine G.condT rfl ?_ | refine G.condF rfl ?_ | refine sFa tb ?_ | refine sLd tb ?_ | refine sLa tb ?_ | refine sLen tb ?_ | refine sFd tb ?_ | refine sBd tb ?_ | refine sBa tb ?_); try (first | refine gl tb ?_ | refine gg tb ?_ | refine ll tb ?_ | refine lg tb ?_))
  first | refine G.condD rfl (fun hc => ?_) (fun hc => ?_) | refine G.condN rfl (fun hc => ?_) (fun hc => ?_) | refine G.cond rfl (fun hc => ?_) (fun hc => ?_)
  · have hlt : k < xs.length := by omega
    have hget : (xs.map smpC)[k]? = some (smpC xs[k]) := by simp [hlt]
    have htk : xs.take (k + 1) = xs.take k ++ [xs[k]] := List.take_succ_eq_append_getElem hlt
    obtain ⟨x, hxk⟩ : ∃ x, xs[k] = x := ⟨_, rfl⟩
    rw [hxk] at hget htk
    have hfl : ((xs.take k).filter (freshB a b)).length ≤ 1000 := by
      have := List.length_filter_le (freshB a b) (xs.take k)
      rw [List.length_take] at this; omega
    try (first | refine gl tb ?_ | refine gg tb ?_ | refine ll tb ?_ | refine lg tb ?_); repeat ((first | refine G.condT rfl ?_ | refine G.condF rfl ?_ | refine sFa tb ?_ | refine sLd tb ?_ | refine sLa tb ?_ | refine sLen tb ?_ | refine sFd tb ?_ | refine sBd tb ?_ | refine sIa tb k ?_); try (first | refine gl tb ?_ | refine gg tb ?_ | refine ll tb ?_ | refine lg tb ?_))
    refine sAl tb ?_
    intro w3 hb3 hs3 hx3
    refine sSt tb ?_ (vs := smpC x) (hv := rfl) (hb := hb3) (h1 := by simp [Value.oneCell', smpC])
    intro w4 hb4 hw4
    have hx24 : Ext W w4 := Below.wr hx3 hw4 (Nat.le_refl _)
    have hx4 := hx.trans hx24
    try (first | refine gl tb ?_ | refine gg tb ?_ | refine ll tb ?_ | refine lg tb ?_); repeat ((first | refine G.condT rfl ?_ | refine G.condF rfl ?_ | refine sFa tb ?_ | refine sLd tb ?_ | refine sLa tb ?_ | refine sLen tb ?_ | refine sFd tb ?_ | refine sBd tb ?_ | refine sBa tb ?_); try (first | refine gl tb ?_ | refine gg tb ?_ | refine ll tb ?_ | refine lg tb ?_))
    refine sCallx c65 (fun hc => Ret.mono (stale_ok x.2 w4) fun _ _ h => ⟨h.1, by rw [h.2]; exact Ext.refl _⟩) ?_
    intro w5 hx5
    have hb5 := hb4.to hx5
    have hx45 := hx24.trans hx5
    have hx05 := hx.trans hx45
    have hfs : (xs.take (k + 1)).filter (freshB a b) = if freshB a b x = true then (xs.take k).filter (freshB a b) ++ [x] else (xs.take k).filter (freshB a b) := by
      rw [htk, List.filter_append]
      by_cases h : freshB a b x = true
      · rw [if_pos h, List.filter_cons, if_pos h]; rfl
      · rw [if_neg h, List.filter_cons, if_neg h]; simp
    try (first | refine gl tb ?_ | refine gg tb ?_ | refine ll tb ?_ | refine lg tb ?_); repeat ((first | refine G.condT rfl ?_ | refine G.condF rfl ?_ | refine sFa tb ?_ | refine sLd tb ?_ | refine sLa tb ?_ | refine sLen tb ?_ | refine sFd tb ?_ | refine sBd tb ?_ | refine sBa tb ?_); try (first | refine gl tb ?_ | refine gg tb ?_ | refine ll tb ?_ | refine lg tb ?_))
    refine G.join (fun u : Value => [(1, none, .int .i64 a), (2, none, .int .i64 b), (7, none, u), (10, none, v), (11, none, .int .i64 xs.length), (12, none, .int .i64 k)]) (fun u W2 => Ext w W2 ∧ SmpO W2 w.heap.size u ((xs.take (k + 1)).filter (freshB a b))) ?_ ?_
    · rintro u W2 ⟨hx2, hu⟩
      try (first | refine gl tb ?_ | refine gg tb ?_ | refine ll tb ?_ | refine lg tb ?_); repeat ((first | refine G.condT rfl ?_ | refine G.condF rfl ?_ | refine sFa tb ?_ | refine sLd tb ?_ | refine sLa tb ?_ | refine sLen tb ?_ | refine sFd tb ?_ | refine sBd tb ?_ | refine sBa tb ?_); try (first | refine gl tb ?_ | refine gg tb ?_ | refine ll tb ?_ | refine lg tb ?_))
      refine sAd tb ?_
      try (first | refine gl tb ?_ | refine gg tb ?_ | refine ll tb ?_ | refine lg tb ?_); repeat ((first | refine G.condT rfl ?_ | refine G.condF rfl ?_ | refine sFa tb ?_ | refine sLd tb ?_ | refine sLa tb ?_ | refine sLen tb ?_ | refine sFd tb ?_ | refine sBd tb ?_ | refine sBa tb ?_); try (first | refine gl tb ?_ | refine gg tb ?_ | refine ll tb ?_ | refine lg tb ?_))
      exact G.lp (x := (k, s)) (k + 1, u) (by repeat (first | exact Sub.nil _ | refine Sub.cons rfl ?_)) ⟨hx2, by simp only; omega, hu⟩ (by simp only; omega)
    · first | refine G.condD rfl (fun hc => ?_) (fun hc => ?_) | refine G.condN rfl (fun hc => ?_) (fun hc => ?_) | refine G.cond rfl (fun hc => ?_) (fun hc => ?_)
      · rw [if_pos (show freshB a b x = true from hc)] at hfs
        try (first | refine gl tb ?_ | refine gg tb ?_ | refine ll tb ?_ | refine lg tb ?_); repeat ((first | refine G.condT rfl ?_ | refine G.condF rfl ?_ | refine sFa tb ?_ | refine sLd tb ?_ | refine sLa tb ?_ | refine sLen tb ?_ | refine sFd tb ?_ | refine sBd tb ?_ | refine sBa tb ?_); try (first | refine gl tb ?_ | refine gg tb ?_ | refine ll tb ?_ | refine lg tb ?_))
        refine sBs' tb [smpC x] ?_ (hkl := smpLen [x])
        intro v6 w6 ho6 hs6 hx6
        have hx06 := hx05.trans hx6
        refine sApp tb (hs.to (hx45.trans hx6)) ho6.sli ?_ (h1 := smp1 [x]) (hB := hx06.size)
        intro v7 w7 ho7 hg7
        try (first | refine gl tb ?_ | refine gg tb ?_ | refine ll tb ?_ | refine lg tb ?_); repeat ((first | refine G.condT rfl ?_ | refine G.condF rfl ?_ | refine sFa tb ?_ | refine sLd tb ?_ | refine sLa tb ?_ | refine sLen tb ?_ | refine sFd tb ?_ | refine sBd tb ?_ | refine sBa tb ?_); try (first | refine gl tb ?_ | refine gg tb ?_ | refine ll tb ?_ | refine lg tb ?_))
        exact G.met v7 (by repeat (first | exact Sub.nil _ | refine Sub.cons rfl ?_)) ⟨hg7.below _ hx06, by rw [hfs]; unfold SmpO; rw [List.map_append]; exact ho7⟩
      · rw [if_neg (show ¬ freshB a b x = true by simpa [freshB] using hc)] at hfs
        try (first | refine gl tb ?_ | refine gg tb ?_ | refine ll tb ?_ | refine lg tb ?_); repeat ((first | refine G.condT rfl ?_ | refine G.condF rfl ?_ | refine sFa tb ?_ | refine sLd tb ?_ | refine sLa tb ?_ | refine sLen tb ?_ | refine sFd tb ?_ | refine sBd tb ?_ | refine sBa tb ?_); try (first | refine gl tb ?_ | refine gg tb ?_ | refine ll tb ?_ | refine lg tb ?_))
        exact G.met s (by repeat (first | exact Sub.nil _ | refine Sub.cons rfl ?_)) ⟨hx05, by rw [hfs]; exact hs.to hx45⟩
  · have hke : k = xs.length := by omega
    rw [hke, List.take_length] at hs
    try (first | refine gl tb ?_ | refine gg tb ?_ | refine ll tb ?_ | refine lg tb ?_); repeat ((first | refine G.condT rfl ?_ | refine G.condF rfl ?_ | refine sFa tb ?_ | refine sLd tb ?_ | refine sLa tb ?_ | refine sLen tb ?_ | refine sFd tb ?_ | refine sBd tb ?_ | refine sBa tb ?_); try (first | refine gl tb ?_ | refine gg tb ?_ | refine ll tb ?_ | refine lg tb ?_))
    refine G.ret1 rfl rfl rfl rfl ?_
    exact ⟨hs, hx⟩
end Go.Proofs.Ytbnckhfkkoncbaa
