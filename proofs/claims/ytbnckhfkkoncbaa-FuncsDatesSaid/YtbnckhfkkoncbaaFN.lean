/- Dates, the program's and the reference's: walked. -/
import Derived.Test.YtbnckhfkkoncbaaFC
import Derived.Test.YtbnckhfkkoncbaaGV2
open Go Go.Vg Go.RowKit Go.Proofs Go.Proofs.Ytbnckhfkkoncbaa
namespace Go.Proofs.Ytbnckhfkkoncbaa
set_option linter.unusedSimpArgs false

/-- the days of a year -/
def yl (y : Int) : Int := if leapB y = true then 366 else 365
theorem yl_bd (y : Int) : 365 ≤ yl y ∧ yl y ≤ 366 := by unfold yl; split <;> omega
/-- the year in which a day lies, and the days ahead of it in that year -/
def yearL : Nat → Int → Int → Int × Int
  | 0, y, r => (y, r)
  | f + 1, y, r => if r < yl y then (y, r) else yearL f (y + 1) (r - yl y)
theorem yearL_fuel : ∀ (f k : Nat) (y r : Int), r.toNat < f → r.toNat < k → yearL f y r = yearL k y r
  | 0, _, _, _, h, _ => by omega
  | f + 1, 0, _, _, _, h => by omega
  | f + 1, k + 1, y, r, h1, h2 => by
    have := yl_bd y
    simp only [yearL]
    by_cases h : r < yl y
    · rw [if_pos h, if_pos h]
    · rw [if_neg h, if_neg h]
      exact yearL_fuel f k _ _ (by omega) (by omega)
def yearP (y r : Int) : Int × Int := yearL (r.toNat + 1) y r
theorem yearP_step (y r : Int) : yearP y r = if r < yl y then (y, r) else yearP (y + 1) (r - yl y) := by
  have := yl_bd y
  unfold yearP
  rw [yearL]
  by_cases h : r < yl y
  · rw [if_pos h, if_pos h]
  · rw [if_neg h, if_neg h]
    exact yearL_fuel _ _ _ _ (by omega) (by omega)
/-- the days from a month to the year's end -/
def left (b : Bool) : Nat → Int
  | 1 => if b then 366 else 365
  | 2 => if b then 335 else 334
  | 3 => 306 | 4 => 275 | 5 => 245 | 6 => 214 | 7 => 184 | 8 => 153 | 9 => 122 | 10 => 92 | 11 => 61 | 12 => 31
  | _ => 0
theorem left_step (y : Int) (m : Nat) (h1 : 1 ≤ m) (h2 : m ≤ 12) : longB y m + left (leapB y) (m + 1) = left (leapB y) m ∧ 28 ≤ longB y m ∧ longB y m ≤ 31 := by
  have : ∀ b : Bool, ∀ m : Fin 13, 1 ≤ m.val → (if (decide ((m.val : Int) = 2) && b) = true then (29 : Int) else if (m.val : Int) = 2 then 28 else if (decide ((m.val : Int) = 4) || decide ((m.val : Int) = 6) || decide ((m.val : Int) = 9) || decide ((m.val : Int) = 11)) = true then 30 else 31) + left b (m.val + 1) = left b m.val ∧ 28 ≤ (if (decide ((m.val : Int) = 2) && b) = true then (29 : Int) else if (m.val : Int) = 2 then 28 else if (decide ((m.val : Int) = 4) || decide ((m.val : Int) = 6) || decide ((m.val : Int) = 9) || decide ((m.val : Int) = 11)) = true then 30 else 31) ∧ (if (decide ((m.val : Int) = 2) && b) = true then (29 : Int) else if (m.val : Int) = 2 then 28 else if (decide ((m.val : Int) = 4) || decide ((m.val : Int) = 6) || decide ((m.val : Int) = 9) || decide ((m.val : Int) = 11)) = true then 30 else 31) ≤ 31 := by decide
  exact this (leapB y) ⟨m, by omega⟩ h1
/-- the month in which a day lies, and the days ahead of it in that month -/
def monL (y : Int) : Nat → Nat → Int → Nat × Int
  | 0, m, r => (m, r)
  | f + 1, m, r => if longB y m ≤ r then monL y f (m + 1) (r - longB y m) else (m, r)
/-- a date: year, month, day, day of the year -/
def dateP (d : Int) : Int × Nat × Int × Int :=
  let p := yearP (1970 + 400 * (d / 146097)) (d % 146097)
  let q := monL p.1 13 1 p.2
  (p.1, q.1, q.2 + 1, p.2 + 1)
theorem left_12 (b : Bool) : left b 12 = 31 ∧ left b 13 = 0 ∧ left b 1 = (if b then 366 else 365) := by cases b <;> exact ⟨rfl, rfl, rfl⟩
theorem date_ok (d : Int) (w : World) (h1 : -2000000 ≤ d) (h2 : d ≤ 2000000) : Ret Try.prog 67 ⟨[.int .i64 d]⟩ w fun v w' => v = .tuple ⟨[.int .i64 (dateP d).1, .int .i64 ((dateP d).2.1 : Nat), .int .i64 (dateP d).2.2.1, .int .i64 (dateP d).2.2.2]⟩ ∧ Ext w w' := by
  unfold dateP
  simp only
  refine ret_of_G Try.func67 rfl Try.ntmps67 rfl ?_
  simp only [argEnv]
  try (first | refine gl tb ?_ | refine gg tb ?_ | refine ll tb ?_ | refine lg tb ?_); repeat ((first | refine G.condT rfl ?_ | refine G.condF rfl ?_ | refine sFa tb ?_ | refine sLd tb ?_ | refine sLa tb ?_ | refine sLen tb ?_ | refine sFd tb ?_ | refine sBd tb ?_ | refine sBa tb ?_); try (first | refine gl tb ?_ | refine gg tb ?_ | refine ll tb ?_ | refine lg tb ?_))
  refine sCall c66 (floored_ok d 146097 w (by omega) (by omega) (by omega) (by omega)) ?_
  rintro _ w1 ⟨rfl, hx1⟩
  obtain ⟨E, hE⟩ : ∃ E, d / 146097 = E := ⟨_, rfl⟩
  obtain ⟨R, hR⟩ : ∃ R, d % 146097 = R := ⟨_, rfl⟩
  rw [hE, hR]
  have hR0 : 0 ≤ R ∧ R < 146097 := by omega
  have hE0 : -14 ≤ E ∧ E ≤ 14 := by omega
  obtain ⟨p, hp⟩ : ∃ p, yearP (1970 + 400 * E) R = p := ⟨_, rfl⟩
  rw [hp]
  try (first | refine gl tb ?_ | refine gg tb ?_ | refine ll tb ?_ | refine lg tb ?_); repeat ((first | refine G.condT rfl ?_ | refine G.condF rfl ?_ | refine sFa tb ?_ | refine sLd tb ?_ | refine sLa tb ?_ | refine sLen tb ?_ | refine sFd tb ?_ | refine sBd tb ?_ | refine sBa tb ?_); try (first | refine gl tb ?_ | refine gg tb ?_ | refine ll tb ?_ | refine lg tb ?_))
  refine sAd tb (r := 400 * E) ?_
  refine sAd tb (r := 1970 + 400 * E) ?_
  try (first | refine gl tb ?_ | refine gg tb ?_ | refine ll tb ?_ | refine lg tb ?_); repeat ((first | refine G.condT rfl ?_ | refine G.condF rfl ?_ | refine sFa tb ?_ | refine sLd tb ?_ | refine sLa tb ?_ | refine sLen tb ?_ | refine sFd tb ?_ | refine sBd tb ?_ | refine sBa tb ?_); try (first | refine gl tb ?_ | refine gg tb ?_ | refine ll tb ?_ | refine lg tb ?_))
  refine (G.loop (fun x : Int × Int => [(2, none, .int .i64 x.1), (7, none, .int .i64 x.2)]) (fun x W => Ext w W ∧ 0 ≤ x.2 ∧ 1970 + 400 * E ≤ x.1 ∧ x.1 + x.2 ≤ 1970 + 400 * E + R ∧ yearP x.1 x.2 = p) (fun x => x.2.toNat) (1970 + 400 * E, R) (by repeat (first | exact Sub.nil _ | refine Sub.cons rfl ?_)) ⟨hx1, hR0.1, Int.le_refl _, Int.le_refl _, hp⟩ ?_)
  rintro ⟨y, r⟩ W ⟨hx, hr, hy1, hy2, hyp⟩
  simp only at hr hy1 hy2 hyp ⊢
  have hyl := yl_bd y
  try (first | refine gl tb ?_ | refine gg tb ?_ | refine ll tb ?_ | refine lg tb ?_); repeat ((first | refine G.condT rfl ?_ | refine G.condF rfl ?_ | refine sFa tb ?_ | refine sLd tb ?_ | refine sLa tb ?_ | refine sLen tb ?_ | refine sFd tb ?_ | refine sBd tb ?_ | refine sBa tb ?_); try (first | refine gl tb ?_ | refine gg tb ?_ | refine ll tb ?_ | refine lg tb ?_))
  refine sCall c95 (leap_ok y W) ?_
  rintro _ w2 ⟨rfl, hw2⟩
  obtain rfl : W = w2 := hw2.symm
  try (first | refine gl tb ?_ | refine gg tb ?_ | refine ll tb ?_ | refine lg tb ?_); repeat ((first | refine G.condT rfl ?_ | refine G.condF rfl ?_ | refine sFa tb ?_ | refine sLd tb ?_ | refine sLa tb ?_ | refine sLen tb ?_ | refine sFd tb ?_ | refine sBd tb ?_ | refine sBa tb ?_); try (first | refine gl tb ?_ | refine gg tb ?_ | refine ll tb ?_ | refine lg tb ?_))
  refine G.join (fun _ : Unit => [(2, none, .int .i64 y), (7, none, .int .i64 r), (8, none, .int .i64 (yl y))]) (fun _ w' => w' = W) ?_ ?_
  rotate_left
  · first | refine G.condD rfl (fun hc => ?_) (fun hc => ?_) | refine G.condN rfl (fun hc => ?_) (fun hc => ?_) | refine G.cond rfl (fun hc => ?_) (fun hc => ?_)
    · try (first | refine gl tb ?_ | refine gg tb ?_ | refine ll tb ?_ | refine lg tb ?_); repeat ((first | refine G.condT rfl ?_ | refine G.condF rfl ?_ | refine sFa tb ?_ | refine sLd tb ?_ | refine sLa tb ?_ | refine sLen tb ?_ | refine sFd tb ?_ | refine sBd tb ?_ | refine sBa tb ?_); try (first | refine gl tb ?_ | refine gg tb ?_ | refine ll tb ?_ | refine lg tb ?_))
      rw [show (366 : Int) = yl y by unfold yl; rw [if_pos hc]]
      exact G.met () (by repeat (first | exact Sub.nil _ | refine Sub.cons rfl ?_)) rfl
    · try (first | refine gl tb ?_ | refine gg tb ?_ | refine ll tb ?_ | refine lg tb ?_); repeat ((first | refine G.condT rfl ?_ | refine G.condF rfl ?_ | refine sFa tb ?_ | refine sLd tb ?_ | refine sLa tb ?_ | refine sLen tb ?_ | refine sFd tb ?_ | refine sBd tb ?_ | refine sBa tb ?_); try (first | refine gl tb ?_ | refine gg tb ?_ | refine ll tb ?_ | refine lg tb ?_))
      rw [show (365 : Int) = yl y by unfold yl; rw [if_neg (by rw [hc]; simp)]]
      exact G.met () (by repeat (first | exact Sub.nil _ | refine Sub.cons rfl ?_)) rfl
  rintro _ w2 hw2
  obtain rfl : W = w2 := hw2.symm
  rw [yearP_step] at hyp
  try (first | refine gl tb ?_ | refine gg tb ?_ | refine ll tb ?_ | refine lg tb ?_); repeat ((first | refine G.condT rfl ?_ | refine G.condF rfl ?_ | refine sFa tb ?_ | refine sLd tb ?_ | refine sLa tb ?_ | refine sLen tb ?_ | refine sFd tb ?_ | refine sBd tb ?_ | refine sBa tb ?_); try (first | refine gl tb ?_ | refine gg tb ?_ | refine ll tb ?_ | refine lg tb ?_))
  first | refine G.condD rfl (fun hc => ?_) (fun hc => ?_) | refine G.condN rfl (fun hc => ?_) (fun hc => ?_) | refine G.cond rfl (fun hc => ?_) (fun hc => ?_)
  · rw [if_pos hc] at hyp
    subst hyp
    have hl := left_12 (leapB y)
    have hlr : r < left (leapB y) 1 := by rw [hl.2.2]; exact hc
    obtain ⟨q, hq⟩ : ∃ q, monL y 13 1 r = q := ⟨_, rfl⟩
    simp only [hq]
    try (first | refine gl tb ?_ | refine gg tb ?_ | refine ll tb ?_ | refine lg tb ?_); repeat ((first | refine G.condT rfl ?_ | refine G.condF rfl ?_ | refine sFa tb ?_ | refine sLd tb ?_ | refine sLa tb ?_ | refine sLen tb ?_ | refine sFd tb ?_ | refine sBd tb ?_ | refine sBa tb ?_); try (first | refine gl tb ?_ | refine gg tb ?_ | refine ll tb ?_ | refine lg tb ?_))
    refine sAd tb ?_
    try (first | refine gl tb ?_ | refine gg tb ?_ | refine ll tb ?_ | refine lg tb ?_); repeat ((first | refine G.condT rfl ?_ | refine G.condF rfl ?_ | refine sFa tb ?_ | refine sLd tb ?_ | refine sLa tb ?_ | refine sLen tb ?_ | refine sFd tb ?_ | refine sBd tb ?_ | refine sBa tb ?_); try (first | refine gl tb ?_ | refine gg tb ?_ | refine ll tb ?_ | refine lg tb ?_))
    refine (G.loop (fun x : Nat × Int => [(2, none, .int .i64 y), (3, none, .int .i64 x.1), (5, none, .int .i64 (r + 1)), (7, none, .int .i64 x.2)]) (fun x W2 => Ext w W2 ∧ 1 ≤ x.1 ∧ x.1 ≤ 12 ∧ 0 ≤ x.2 ∧ x.2 < left (leapB y) x.1 ∧ x.2 ≤ r ∧ monL y (14 - x.1) x.1 x.2 = q) (fun x => 13 - x.1) (1, r) (by repeat (first | exact Sub.nil _ | refine Sub.cons rfl ?_)) ⟨hx, Nat.le_refl 1, (show 1 ≤ 12 by decide), hr, hlr, Int.le_refl _, hq⟩ ?_)
    rintro ⟨m, s⟩ W2 ⟨hx2, hm1, hm2, hs0, hsl, hsr, hmq⟩
    simp only at hm1 hm2 hs0 hsl hsr hmq ⊢
    have hst := left_step y m hm1 hm2
    rw [show 14 - m = (13 - m) + 1 by omega, monL] at hmq
    try (first | refine gl tb ?_ | refine gg tb ?_ | refine ll tb ?_ | refine lg tb ?_); repeat ((first | refine G.condT rfl ?_ | refine G.condF rfl ?_ | refine sFa tb ?_ | refine sLd tb ?_ | refine sLa tb ?_ | refine sLen tb ?_ | refine sFd tb ?_ | refine sBd tb ?_ | refine sBa tb ?_); try (first | refine gl tb ?_ | refine gg tb ?_ | refine ll tb ?_ | refine lg tb ?_))
    refine sCall c68 (long_ok y m W2) ?_
    rintro _ w3 ⟨rfl, hx3⟩
    try (first | refine gl tb ?_ | refine gg tb ?_ | refine ll tb ?_ | refine lg tb ?_); repeat ((first | refine G.condT rfl ?_ | refine G.condF rfl ?_ | refine sFa tb ?_ | refine sLd tb ?_ | refine sLa tb ?_ | refine sLen tb ?_ | refine sFd tb ?_ | refine sBd tb ?_ | refine sBa tb ?_); try (first | refine gl tb ?_ | refine gg tb ?_ | refine ll tb ?_ | refine lg tb ?_))
    first | refine G.condD rfl (fun hc => ?_) (fun hc => ?_) | refine G.condN rfl (fun hc => ?_) (fun hc => ?_) | refine G.cond rfl (fun hc => ?_) (fun hc => ?_)
    · rw [if_pos hc] at hmq
      have hm12 : m ≠ 12 := by
        intro h
        subst h
        have := (left_12 (leapB y)).1
        have h13 := (left_12 (leapB y)).2.1
        have e : longB y ((12 : Nat) : Int) + left (leapB y) 13 = left (leapB y) 12 := hst.1
        omega
      try (first | refine gl tb ?_ | refine gg tb ?_ | refine ll tb ?_ | refine lg tb ?_); repeat ((first | refine G.condT rfl ?_ | refine G.condF rfl ?_ | refine sFa tb ?_ | refine sLd tb ?_ | refine sLa tb ?_ | refine sLen tb ?_ | refine sFd tb ?_ | refine sBd tb ?_ | refine sBa tb ?_); try (first | refine gl tb ?_ | refine gg tb ?_ | refine ll tb ?_ | refine lg tb ?_))
      refine sCall c68 (long_ok y m w3) ?_
      rintro _ w4 ⟨rfl, hx4⟩
      refine sAd tb ?_
      try (first | refine gl tb ?_ | refine gg tb ?_ | refine ll tb ?_ | refine lg tb ?_); repeat ((first | refine G.condT rfl ?_ | refine G.condF rfl ?_ | refine sFa tb ?_ | refine sLd tb ?_ | refine sLa tb ?_ | refine sLen tb ?_ | refine sFd tb ?_ | refine sBd tb ?_ | refine sBa tb ?_); try (first | refine gl tb ?_ | refine gg tb ?_ | refine ll tb ?_ | refine lg tb ?_))
      refine sAd tb ?_
      try (first | refine gl tb ?_ | refine gg tb ?_ | refine ll tb ?_ | refine lg tb ?_); repeat ((first | refine G.condT rfl ?_ | refine G.condF rfl ?_ | refine sFa tb ?_ | refine sLd tb ?_ | refine sLa tb ?_ | refine sLen tb ?_ | refine sFd tb ?_ | refine sBd tb ?_ | refine sBa tb ?_); try (first | refine gl tb ?_ | refine gg tb ?_ | refine ll tb ?_ | refine lg tb ?_))
      exact G.lp (x := (m, s)) (m + 1, s - longB y m) (by repeat (first | exact Sub.nil _ | refine Sub.cons rfl ?_)) ⟨(hx2.trans hx3).trans hx4, by simp only; omega, by simp only; omega, by simp only; omega, by simp only; omega, by simp only; omega, by rw [show 14 - (m + 1) = 13 - m by omega]; exact hmq⟩ (by simp only; omega)
    · rw [if_neg hc] at hmq
      subst hmq
      try (first | refine gl tb ?_ | refine gg tb ?_ | refine ll tb ?_ | refine lg tb ?_); repeat ((first | refine G.condT rfl ?_ | refine G.condF rfl ?_ | refine sFa tb ?_ | refine sLd tb ?_ | refine sLa tb ?_ | refine sLen tb ?_ | refine sFd tb ?_ | refine sBd tb ?_ | refine sBa tb ?_); try (first | refine gl tb ?_ | refine gg tb ?_ | refine ll tb ?_ | refine lg tb ?_))
      refine sAd tb ?_
      try (first | refine gl tb ?_ | refine gg tb ?_ | refine ll tb ?_ | refine lg tb ?_); repeat ((first | refine G.condT rfl ?_ | refine G.condF rfl ?_ | refine sFa tb ?_ | refine sLd tb ?_ | refine sLa tb ?_ | refine sLen tb ?_ | refine sFd tb ?_ | refine sBd tb ?_ | refine sBa tb ?_); try (first | refine gl tb ?_ | refine gg tb ?_ | refine ll tb ?_ | refine lg tb ?_))
      refine G.ret4 rfl rfl rfl rfl rfl rfl rfl ?_
      exact ⟨rfl, hx2.trans hx3⟩
  · rw [if_neg hc] at hyp
    try (first | refine gl tb ?_ | refine gg tb ?_ | refine ll tb ?_ | refine lg tb ?_); repeat ((first | refine G.condT rfl ?_ | refine G.condF rfl ?_ | refine sFa tb ?_ | refine sLd tb ?_ | refine sLa tb ?_ | refine sLen tb ?_ | refine sFd tb ?_ | refine sBd tb ?_ | refine sBa tb ?_); try (first | refine gl tb ?_ | refine gg tb ?_ | refine ll tb ?_ | refine lg tb ?_))
    refine sAd tb ?_
    try (first | refine gl tb ?_ | refine gg tb ?_ | refine ll tb ?_ | refine lg tb ?_); repeat ((first | refine G.condT rfl ?_ | refine G.condF rfl ?_ | refine sFa tb ?_ | refine sLd tb ?_ | refine sLa tb ?_ | refine sLen tb ?_ | refine sFd tb ?_ | refine sBd tb ?_ | refine sBa tb ?_); try (first | refine gl tb ?_ | refine gg tb ?_ | refine ll tb ?_ | refine lg tb ?_))
    refine sAd tb ?_
    try (first | refine gl tb ?_ | refine gg tb ?_ | refine ll tb ?_ | refine lg tb ?_); repeat ((first | refine G.condT rfl ?_ | refine G.condF rfl ?_ | refine sFa tb ?_ | refine sLd tb ?_ | refine sLa tb ?_ | refine sLen tb ?_ | refine sFd tb ?_ | refine sBd tb ?_ | refine sBa tb ?_); try (first | refine gl tb ?_ | refine gg tb ?_ | refine ll tb ?_ | refine lg tb ?_))
    exact G.lp (x := (y, r)) (y + 1, r - yl y) (by repeat (first | exact Sub.nil _ | refine Sub.cons rfl ?_)) ⟨hx, by simp only; omega, by simp only; omega, by simp only; omega, hyp⟩ (by simp only; omega)
end Go.Proofs.Ytbnckhfkkoncbaa
