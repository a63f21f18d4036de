/- ScrapeSteps: of any offset and interval, the times at which a target is due are told one behind the other, rising, as far as it is asked. Conditions: none beyond the statement's own. -/
import Derived.Test.YtmkckngecjpklaaDoorP08
import Derived.Lib.ValidLaws
import Derived.Lib.SmallJoins
section
open Go Go.Vg Go.RowKit Go.Proofs Go.Proofs.YtmkckngecjpklaaDoor
namespace Go.Proofs.YtmkckngecjpklaaDoor
set_option linter.unusedSimpArgs false

def relF (F : Rule → List Lab.Lab → List Lab.Lab × Bool) : List Rule → List Lab.Lab → List Lab.Lab × Bool
  | [], ls => (ls, true)
  | r :: rs, ls => if rightR r = true then (if (F r ls).2 = true then relF F rs (F r ls).1 else ([], false)) else relF F rs ls
abbrev relC2 (p : Rule × Value) : List Value := relC p.1 p.2
/-- what a rule's walk must show -/
def RuleOk (F : Rule → List Lab.Lab → List Lab.Lab × Bool) (Inv : List Lab.Lab → Prop) (w : World) (p : Rule × Value) : Prop :=
  ∀ W v cur, rightR p.1 = true → Ext w W → Inv cur → Lab.Labs W v cur →
    Ret Tryd.prog 26 ⟨[v, .agg ⟨relC p.1 p.2⟩]⟩ W (fun x w' => ∃ u, x = .tuple ⟨[u, .bool (F p.1 cur).2]⟩ ∧ Upd W v cur w' u (F p.1 cur).1 ∧ Ext W w') ∧ ((F p.1 cur).2 = true → Inv (F p.1 cur).1)
theorem relC_one {r : Rule} {sv : Value} {w : World} (h : Srcs w r sv) : ∀ c ∈ relC r sv, c.oneCell' = true := by
  obtain ⟨a, cap, rfl, _⟩ := h.len
  simp [relC, Value.oneCell', S]
theorem relabel_ok (F : Rule → List Lab.Lab → List Lab.Lab × Bool) (Inv : List Lab.Lab → Prop) (v us : Value) (ls : List Lab.Lab) (rs : List (Rule × Value)) (w : World) (hv : Lab.Labs w v ls) (hi : Inv ls) (hn : ls.length ≤ 1000)
    (hu : Sli w us 7 (rs.map relC2)) (hsr : ∀ p ∈ rs, Srcs w p.1 p.2 ∧ RuleSz p.1 ∧ RuleOk F Inv w p) (hT : Tabs w) :
    Ret Tryd.prog 13 ⟨[v, us]⟩ w fun x w' => ∃ u, x = .tuple ⟨[u, .bool (relF F (rs.map (·.1)) ls).2]⟩ ∧ Lab.LO w' w.heap.size u (relF F (rs.map (·.1)) ls).1 ∧ Ext w w' := by
  have hbd := hu.bound
  rw [List.length_map] at hbd
  refine ret_of_G Tryd.func13 rfl Tryd.ntmps13 rfl ?_
  simp only [argEnv]
  try (first | refine gl tb ?_ | refine gg tb ?_ | refine ll tb ?_ | refine lg tb ?_); repeat ((first | refine G.condT rfl ?_ | refine G.condF rfl ?_ | refine sFa tb ?_ | refine sLd tb ?_ | refine sLa tb ?_ | refine sLen tb ?_ | refine sFd tb ?_ | refine sBd tb ?_ | refine sBa tb ?_); try (first | refine gl tb ?_ | refine gg tb ?_ | refine ll tb ?_ | refine lg tb ?_))
  refine G.scope rfl rfl ?_
  try (first | refine gl tb ?_ | refine gg tb ?_ | refine ll tb ?_ | refine lg tb ?_); repeat ((first | refine G.condT rfl ?_ | refine G.condF rfl ?_ | refine sFa tb ?_ | refine sLd tb ?_ | refine sLa tb ?_ | refine sLen tb ?_ | refine sFd tb ?_ | refine sBd tb ?_ | refine sBa tb ?_); try (first | refine gl tb ?_ | refine gg tb ?_ | refine ll tb ?_ | refine lg tb ?_))
  refine sApp tb (Owns.nil w w.heap.size 42 2) hv ?_ (h1 := Lab.lab1 ls) (hB := Nat.le_refl _)
  intro v1 W1 ho1 hg1
  have hx1 : Ext w W1 := hg1.below _ (Ext.refl _)
  rw [List.nil_append] at ho1
  have hv1 : Lab.LO W1 w.heap.size v1 ls := ho1
  have hu1 := hu.to hx1
  try (first | refine gl tb ?_ | refine gg tb ?_ | refine ll tb ?_ | refine lg tb ?_); repeat ((first | refine G.condT rfl ?_ | refine G.condF rfl ?_ | refine sFa tb ?_ | refine sLd tb ?_ | refine sLa tb ?_ | refine sLen tb ?_ | refine sFd tb ?_ | refine sBd tb ?_ | refine sBa tb ?_); try (first | refine gl tb ?_ | refine gg tb ?_ | refine ll tb ?_ | refine lg tb ?_))
  refine G.label ?_
  try (first | refine gl tb ?_ | refine gg tb ?_ | refine ll tb ?_ | refine lg tb ?_); repeat ((first | refine G.condT rfl ?_ | refine G.condF rfl ?_ | refine sFa tb ?_ | refine sLd tb ?_ | refine sLa tb ?_ | refine sLen tb ?_ | refine sFd tb ?_ | refine sBd tb ?_ | refine sBa tb ?_); try (first | refine gl tb ?_ | refine gg tb ?_ | refine ll tb ?_ | refine lg tb ?_))
  rw [List.length_map]
  try (first | refine gl tb ?_ | refine gg tb ?_ | refine ll tb ?_ | refine lg tb ?_); repeat ((first | refine G.condT rfl ?_ | refine G.condF rfl ?_ | refine sFa tb ?_ | refine sLd tb ?_ | refine sLa tb ?_ | refine sLen tb ?_ | refine sFd tb ?_ | refine sBd tb ?_ | refine sBa tb ?_); try (first | refine gl tb ?_ | refine gg tb ?_ | refine ll tb ?_ | refine lg tb ?_))
  refine (G.loop (fun x : Nat × Value × List Lab.Lab => [(0, none, x.2.1), (1, none, us), (6, none, .bool true), (11, none, us), (12, none, .int .i64 rs.length), (13, none, .int .i64 x.1)])
    (fun x W => Ext w W ∧ x.1 ≤ rs.length ∧ Lab.LO W w.heap.size x.2.1 x.2.2 ∧ Inv x.2.2 ∧ relF F (rs.map (·.1)) ls = relF F ((rs.drop x.1).map (·.1)) x.2.2) (fun x => rs.length - x.1) (0, v1, ls) (by repeat (first | exact Sub.nil _ | refine Sub.cons rfl ?_)) ⟨hx1, Nat.zero_le _, hv1, hi, rfl⟩ ?_)
  rintro ⟨k, s, cur⟩ W ⟨hx, hk, hs, hic, he⟩
  simp only at hk hs hic he ⊢
  have huW := hu.to hx
  try (first | refine gl tb ?_ | refine gg tb ?_ | refine ll tb ?_ | refine lg tb ?_); repeat ((first | refine G.condT rfl ?_ | refine G.condF rfl ?_ | refine sFa tb ?_ | refine sLd tb ?_ | refine sLa tb ?_ | refine sLen tb ?_ | refine sFd tb ?_ | refine sBd tb ?_ | refine sBa tb ?_); try (first | refine gl tb ?_ | refine gg tb ?_ | refine ll tb ?_ | refine lg tb ?_))
  first | refine G.condD rfl (fun hc => ?_) (fun hc => ?_) | refine G.condN rfl (fun hc => ?_) (fun hc => ?_) | refine G.cond rfl (fun hc => ?_) (fun hc => ?_)
  · have hlt : k < rs.length := by omega
    have hget : (rs.map relC2)[k]? = some (relC2 rs[k]) := by simp [hlt]
    have hmem : rs[k] ∈ rs := List.getElem_mem hlt
    have hdr : rs.drop k = rs[k] :: rs.drop (k + 1) := List.drop_eq_getElem_cons hlt
    generalize rs[k] = p at hget hmem hdr
    obtain ⟨hsr, hsz, hok⟩ := hsr p hmem
    rw [hdr, List.map_cons] at he
    try (first | refine gl tb ?_ | refine gg tb ?_ | refine ll tb ?_ | refine lg tb ?_); repeat ((first | refine G.condT rfl ?_ | refine G.condF rfl ?_ | refine sFa tb ?_ | refine sLd tb ?_ | refine sLa tb ?_ | refine sLen tb ?_ | refine sFd tb ?_ | refine sBd tb ?_ | refine sIa tb k ?_); try (first | refine gl tb ?_ | refine gg tb ?_ | refine ll tb ?_ | refine lg tb ?_))
    refine sAl tb ?_
    intro W2 hb2 hs2 hx2
    refine sSt tb ?_ (vs := relC2 p) (hv := rfl) (hb := hb2) (h1 := relC_one hsr)
    intro W3 hb3 hw3
    have hx3 : Ext W W3 := Below.wr hx2 hw3 (Nat.le_refl _)
    have hx03 := hx.trans hx3
    try (first | refine gl tb ?_ | refine gg tb ?_ | refine ll tb ?_ | refine lg tb ?_); repeat ((first | refine G.condT rfl ?_ | refine G.condF rfl ?_ | refine sFa tb ?_ | refine sLd tb ?_ | refine sLa tb ?_ | refine sLen tb ?_ | refine sFd tb ?_ | refine sBd tb ?_ | refine sBa tb ?_); try (first | refine gl tb ?_ | refine gg tb ?_ | refine ll tb ?_ | refine lg tb ?_))
    refine sCall c12 (right_okR p.2 p.1 W3 (hsr.to hx03) hsz (hT.to hx03)) ?_
    rintro _ W4 ⟨rfl, hx4⟩
    have hx04 := hx03.trans hx4
    have hb4 := hb3.to hx4
    try (first | refine gl tb ?_ | refine gg tb ?_ | refine ll tb ?_ | refine lg tb ?_); repeat ((first | refine G.condT rfl ?_ | refine G.condF rfl ?_ | refine sFa tb ?_ | refine sLd tb ?_ | refine sLa tb ?_ | refine sLen tb ?_ | refine sFd tb ?_ | refine sBd tb ?_ | refine sBa tb ?_); try (first | refine gl tb ?_ | refine gg tb ?_ | refine ll tb ?_ | refine lg tb ?_))
    first | refine G.condD rfl (fun hc => ?_) (fun hc => ?_) | refine G.condN rfl (fun hc => ?_) (fun hc => ?_) | refine G.cond rfl (fun hc => ?_) (fun hc => ?_)
    · have hr : ¬ rightR p.1 = true := by
        intro h; rw [h] at hc; cases hc
      rw [relF, if_neg hr] at he
      try (first | refine gl tb ?_ | refine gg tb ?_ | refine ll tb ?_ | refine lg tb ?_); repeat ((first | refine G.condT rfl ?_ | refine G.condF rfl ?_ | refine sFa tb ?_ | refine sLd tb ?_ | refine sLa tb ?_ | refine sLen tb ?_ | refine sFd tb ?_ | refine sBd tb ?_ | refine sBa tb ?_); try (first | refine gl tb ?_ | refine gg tb ?_ | refine ll tb ?_ | refine lg tb ?_))
      refine sAd tb ?_
      try (first | refine gl tb ?_ | refine gg tb ?_ | refine ll tb ?_ | refine lg tb ?_); repeat ((first | refine G.condT rfl ?_ | refine G.condF rfl ?_ | refine sFa tb ?_ | refine sLd tb ?_ | refine sLa tb ?_ | refine sLen tb ?_ | refine sFd tb ?_ | refine sBd tb ?_ | refine sBa tb ?_); try (first | refine gl tb ?_ | refine gg tb ?_ | refine ll tb ?_ | refine lg tb ?_))
      exact G.lp (x := (k, s, cur)) (k + 1, s, cur) (by repeat (first | exact Sub.nil _ | refine Sub.cons rfl ?_)) ⟨hx04, by simp only; omega, hs.to ((hx3.trans hx4)), hic, he⟩ (by simp only; omega)
    · have hr : rightR p.1 = true := by
        rcases h : rightR p.1 with _ | _
        · rw [h] at hc; cases hc
        · rfl
      rw [relF, if_pos hr] at he
      obtain ⟨hret, hinv⟩ := hok W4 s cur hr hx04 hic (hs.to (hx3.trans hx4)).sli
      try (first | refine gl tb ?_ | refine gg tb ?_ | refine ll tb ?_ | refine lg tb ?_); repeat ((first | refine G.condT rfl ?_ | refine G.condF rfl ?_ | refine sFa tb ?_ | refine sLd tb ?_ | refine sLa tb ?_ | refine sLen tb ?_ | refine sFd tb ?_ | refine sBd tb ?_ | refine sBa tb ?_); try (first | refine gl tb ?_ | refine gg tb ?_ | refine ll tb ?_ | refine lg tb ?_))
      refine sCall c26 (hret) ?_
      rintro _ W5 ⟨u, rfl, hu5, hx5⟩
      have hx05 := hx04.trans hx5
      try (first | refine gl tb ?_ | refine gg tb ?_ | refine ll tb ?_ | refine lg tb ?_); repeat ((first | refine G.condT rfl ?_ | refine G.condF rfl ?_ | refine sFa tb ?_ | refine sLd tb ?_ | refine sLa tb ?_ | refine sLen tb ?_ | refine sFd tb ?_ | refine sBd tb ?_ | refine sBa tb ?_); try (first | refine gl tb ?_ | refine gg tb ?_ | refine ll tb ?_ | refine lg tb ?_))
      first | refine G.condD rfl (fun hc => ?_) (fun hc => ?_) | refine G.condN rfl (fun hc => ?_) (fun hc => ?_) | refine G.cond rfl (fun hc => ?_) (fun hc => ?_)
      · have h2 : ¬ (F p.1 cur).2 = true := by
          intro h; rw [h] at hc; cases hc
        rw [if_neg h2] at he
        have h3 : (F p.1 cur).2 = false := by simpa using h2
        try (first | refine gl tb ?_ | refine gg tb ?_ | refine ll tb ?_ | refine lg tb ?_); repeat ((first | refine G.condT rfl ?_ | refine G.condF rfl ?_ | refine sFa tb ?_ | refine sLd tb ?_ | refine sLa tb ?_ | refine sLen tb ?_ | refine sFd tb ?_ | refine sBd tb ?_ | refine sBa tb ?_); try (first | refine gl tb ?_ | refine gg tb ?_ | refine ll tb ?_ | refine lg tb ?_))
        refine G.ret2 rfl rfl rfl rfl rfl ?_
        rw [he]
        exact ⟨_, by rw [h3], Owns.nil _ _ _ _, hx05⟩
      · have h2 : (F p.1 cur).2 = true := by
          rcases h : (F p.1 cur).2 with _ | _
          · rw [h] at hc; cases hc
          · rfl
        rw [if_pos h2] at he
        try (first | refine gl tb ?_ | refine gg tb ?_ | refine ll tb ?_ | refine lg tb ?_); repeat ((first | refine G.condT rfl ?_ | refine G.condF rfl ?_ | refine sFa tb ?_ | refine sLd tb ?_ | refine sLa tb ?_ | refine sLen tb ?_ | refine sFd tb ?_ | refine sBd tb ?_ | refine sBa tb ?_); try (first | refine gl tb ?_ | refine gg tb ?_ | refine ll tb ?_ | refine lg tb ?_))
        refine sAd tb ?_
        try (first | refine gl tb ?_ | refine gg tb ?_ | refine ll tb ?_ | refine lg tb ?_); repeat ((first | refine G.condT rfl ?_ | refine G.condF rfl ?_ | refine sFa tb ?_ | refine sLd tb ?_ | refine sLa tb ?_ | refine sLen tb ?_ | refine sFd tb ?_ | refine sBd tb ?_ | refine sBa tb ?_); try (first | refine gl tb ?_ | refine gg tb ?_ | refine ll tb ?_ | refine lg tb ?_))
        refine G.lp (x := (k, s, cur)) (k + 1, u, (F p.1 cur).1) ?_ ⟨hx05, by simp only; omega, hu5.lo (hs.to (hx3.trans hx4)) hx04.size hx5, hinv h2, he⟩ (by simp only; omega)
        rw [h2]
        exact (by repeat (first | exact Sub.nil _ | refine Sub.cons rfl ?_))
  · obtain rfl : k = rs.length := by omega
    rw [List.drop_length] at he
    try (first | refine gl tb ?_ | refine gg tb ?_ | refine ll tb ?_ | refine lg tb ?_); repeat ((first | refine G.condT rfl ?_ | refine G.condF rfl ?_ | refine sFa tb ?_ | refine sLd tb ?_ | refine sLa tb ?_ | refine sLen tb ?_ | refine sFd tb ?_ | refine sBd tb ?_ | refine sBa tb ?_); try (first | refine gl tb ?_ | refine gg tb ?_ | refine ll tb ?_ | refine lg tb ?_))
    refine G.ret2 rfl rfl rfl rfl rfl ?_
    rw [he]
    exact ⟨_, rfl, hs, hx⟩
end Go.Proofs.YtmkckngecjpklaaDoor
end
section
namespace Go.Sc
/-- how far a time is behind the last one of a target -/
def back (t o i : Int) : Int := (t - o) % i
theorem back_eq {t o i : Int} (hi : 0 < i) (h0 : 0 ≤ o) (h1 : o < i) : back t o i = if t % i - o < 0 then t % i - o + i else t % i - o := by
  have e1 := Int.emod_nonneg t (show i ≠ 0 by omega)
  have e2 := Int.emod_lt_of_pos t hi
  have e3 : (t - o) % i = (t % i - o) % i := by rw [Int.sub_emod t o i, Int.sub_emod (t % i) o i, Int.emod_emod]
  unfold back
  rw [e3]
  split
  · rw [← Int.add_emod_right, Int.emod_eq_of_lt (by omega) (by omega)]
  · rw [Int.emod_eq_of_lt (by omega) (by omega)]
theorem back_bd {t o i : Int} (hi : 0 < i) : 0 ≤ back t o i ∧ back t o i < i := ⟨Int.emod_nonneg _ (by omega), Int.emod_lt_of_pos _ hi⟩
/-- P12.4: when a target is due last in a time -/
def due (o i frm to_ : Int) : Option Int :=
  if i < 1 ∨ o < 0 ∨ i ≤ o ∨ to_ ≤ frm then none
  else if to_ < -9223372036854775808 + back to_ o i ∨ to_ - back to_ o i ≤ frm then none else some (to_ - back to_ o i)
end Go.Sc
end
section
namespace Go.Sc
def aT (frm o i : Int) (k : Nat) : Int := frm - back frm o i + k * i
def lastK (frm o i : Int) (k : Nat) : Int := if k = 0 then frm else aT frm o i k
theorem back_add {t o i : Int} : back (t + i) o i = back t o i := by
  unfold back
  rw [show t + i - o = t - o + i by omega, Int.add_emod_right]
theorem aT_succ (frm o i : Int) (k : Nat) : aT frm o i (k + 1) = aT frm o i k + i := by
  unfold aT
  rw [Int.natCast_succ, Int.add_mul]; omega
theorem back_aT {frm o i : Int} (k : Nat) : (aT frm o i k - o) % i = 0 := by
  induction k with
  | zero =>
    have e : aT frm o i 0 - o = (frm - o) - (frm - o) % i := by
      unfold aT back
      simp only [Int.natCast_zero, Int.zero_mul]; omega
    rw [e]
    exact Int.emod_eq_zero_of_dvd Int.dvd_self_sub_emod
  | succ k ih =>
    rw [aT_succ, show aT frm o i k + i - o = aT frm o i k - o + i by omega, Int.add_emod_right, ih]
theorem aT_zero (frm o i : Int) : aT frm o i 0 = frm - back frm o i := by
  unfold aT
  simp
theorem lastK_ge {frm o i : Int} (hi : 1 ≤ i) (k : Nat) : aT frm o i k ≤ lastK frm o i k := by
  unfold lastK
  split
  · rename_i h; subst h
    rw [aT_zero]
    have := back_bd (t := frm) (o := o) (i := i) (by omega)
    omega
  · omega
theorem lastK_lt {frm o i : Int} (hi : 1 ≤ i) (k : Nat) : lastK frm o i k < aT frm o i (k + 1) := by
  rw [aT_succ]
  unfold lastK
  split
  · rename_i h; subst h
    rw [aT_zero]
    have := back_bd (t := frm) (o := o) (i := i) (by omega)
    omega
  · omega
theorem due_step {frm o i : Int} (hi : 1 ≤ i) (h0 : 0 ≤ o) (h1 : o < i) (k : Nat) (hb : -1152921504606846976 ≤ lastK frm o i k) :
    due o i (lastK frm o i k) (lastK frm o i k + i) = some (aT frm o i (k + 1)) := by
  have hb1 : back (lastK frm o i k + i) o i = lastK frm o i k + i - aT frm o i (k + 1) := by
    rw [back_add, aT_succ]
    unfold lastK
    split
    · rename_i h; subst h
      rw [aT_zero]; omega
    · unfold back
      rw [back_aT]; omega
  have h2 := lastK_lt (frm := frm) (o := o) (i := i) hi k
  have h3 := back_bd (t := lastK frm o i k + i) (o := o) (i := i) (by omega)
  unfold due
  rw [if_neg (by omega), hb1, if_neg (by omega)]
  congr 1; omega
theorem due_end {frm o i to_ : Int} (hi : 1 ≤ i) (h0 : 0 ≤ o) (h1 : o < i) (k : Nat) (hk : to_ < aT frm o i (k + 1)) : due o i (lastK frm o i k) to_ = none := by
  unfold due
  split
  · rfl
  · rw [if_pos]
    right
    have h3 := back_bd (t := to_) (o := o) (i := i) (by omega)
    have h4 := lastK_ge (frm := frm) (o := o) hi k
    have e1 := back_aT (frm := frm) (o := o) (i := i) (k + 1)
    obtain ⟨z, hz⟩ : i ∣ aT frm o i (k + 1) - (to_ - back to_ o i) := by
      have d1 : i ∣ aT frm o i (k + 1) - o := Int.dvd_of_emod_eq_zero e1
      have d2 : i ∣ to_ - o - (to_ - o) % i := Int.dvd_self_sub_emod
      have := Int.dvd_sub d1 d2
      rwa [show aT frm o i (k + 1) - o - (to_ - o - (to_ - o) % i) = aT frm o i (k + 1) - (to_ - back to_ o i) by unfold back; omega] at this
    have hpos : 0 < i * z := by omega
    have hz1 : 1 ≤ z := by
      rcases Int.lt_or_le 0 z with h | h
      · omega
      · have := Int.mul_nonpos_of_nonneg_of_nonpos (a := i) (b := z) (by omega) h
        omega
    have : i * 1 ≤ i * z := Int.mul_le_mul_of_nonneg_left hz1 (by omega)
    rw [aT_succ] at hz
    omega
/-- so many times -/
def manyT (frm o i to_ : Int) : Nat := ((to_ - frm + back frm o i) / i).toNat
theorem many_iff {frm o i to_ : Int} (hi : 1 ≤ i) (hf : frm ≤ to_) (k : Nat) : aT frm o i (k + 1) ≤ to_ ↔ k < manyT frm o i to_ := by
  have hb := back_bd (t := frm) (o := o) (i := i) (by omega)
  have hq : (k : Int) + 1 ≤ (to_ - frm + back frm o i) / i ↔ ((k : Int) + 1) * i ≤ to_ - frm + back frm o i := Int.le_ediv_iff_mul_le (by omega)
  have h0 : 0 ≤ (to_ - frm + back frm o i) / i := Int.ediv_nonneg (by omega) (by omega)
  have e : aT frm o i (k + 1) = frm - back frm o i + ((k : Int) + 1) * i := by unfold aT; rw [Int.natCast_succ]
  rw [e]
  unfold manyT
  constructor
  · intro h
    have := hq.2 (by omega)
    omega
  · intro h
    have := hq.1 (by omega)
    omega
theorem many_one {frm o i to_ : Int} (hi : 1 ≤ i) (hf : frm = to_) : manyT frm o i to_ = 0 := by
  have hb := back_bd (t := frm) (o := o) (i := i) (by omega)
  unfold manyT
  rw [Int.ediv_eq_zero_of_lt (by omega) (by omega)]
  rfl
end Go.Sc
end
section
open Go Go.Vg Go.RowKit Go.Proofs Go.Proofs.YtmkckngecjpklaaDoor
namespace Go.Proofs.YtmkckngecjpklaaDoor
set_option linter.unusedSimpArgs false

abbrev I64 (n : Int) : Prop := -9223372036854775808 ≤ n ∧ n ≤ 9223372036854775807
theorem tmod_or {t i : Int} (hi : 0 < i) : t.tmod i = t % i ∨ t.tmod i = t % i - i := by
  have e := Int.tmod_eq_emod (a := t) (b := i)
  split at e
  · left; simpa using e
  · right; omega
theorem tmod_eq {t i : Int} (hi : 0 < i) : (if t.tmod i < 0 then t.tmod i + i else t.tmod i) = t % i := by
  have h1 := Int.emod_nonneg t (show i ≠ 0 by omega)
  have h2 := Int.emod_lt_of_pos t hi
  have h3 := tmod_or (t := t) hi
  split <;> omega
theorem tmod_bd {t i : Int} (hi : 0 < i) : -i ≤ t.tmod i ∧ t.tmod i < i := by
  have h1 := Int.emod_nonneg t (show i ≠ 0 by omega)
  have h2 := Int.emod_lt_of_pos t hi
  have h3 := tmod_or (t := t) hi
  omega
theorem below_ok (t o i : Int) (w : World) (hi : 1 ≤ i) (h0 : 0 ≤ o) (h1 : o < i) (hI : i ≤ 9223372036854775807) :
    Ret Tryd.prog 21 ⟨[.int .i64 t, .int .i64 o, .int .i64 i]⟩ w fun r w' => r = .int .i64 (Sc.back t o i) ∧ w' = w := by
  have hbd := tmod_bd (t := t) (i := i) (by omega)
  have heq := tmod_eq (t := t) (i := i) (by omega)
  have hbk := Sc.back_eq (t := t) (o := o) (i := i) (by omega) h0 h1
  have he := Int.emod_nonneg t (show i ≠ 0 by omega)
  have he2 := Int.emod_lt_of_pos t (show 0 < i by omega)
  refine ret_of_G Tryd.func21 rfl Tryd.ntmps21 rfl ?_
  simp only [argEnv]
  try (first | refine gl tb ?_ | refine gg tb ?_ | refine ll tb ?_ | refine lg tb ?_); repeat ((first | refine G.condT rfl ?_ | refine G.condF rfl ?_ | refine sFa tb ?_ | refine sLd tb ?_ | refine sLa tb ?_ | refine sLen tb ?_ | refine sFd tb ?_ | refine sBd tb ?_ | refine sBa tb ?_); try (first | refine gl tb ?_ | refine gg tb ?_ | refine ll tb ?_ | refine lg tb ?_))
  refine sRem rfl ?_
  generalize t.tmod i = m at hbd heq
  generalize t % i = n at hbk he he2 heq
  try (first | refine gl tb ?_ | refine gg tb ?_ | refine ll tb ?_ | refine lg tb ?_); repeat ((first | refine G.condT rfl ?_ | refine G.condF rfl ?_ | refine sFa tb ?_ | refine sLd tb ?_ | refine sLa tb ?_ | refine sLen tb ?_ | refine sFd tb ?_ | refine sBd tb ?_ | refine sBa tb ?_); try (first | refine gl tb ?_ | refine gg tb ?_ | refine ll tb ?_ | refine lg tb ?_))
  refine (G.join (fun _ : Unit => [(1, none, .int .i64 o), (2, none, .int .i64 i), (7, none, .int .i64 n)]) (fun _ W => W = w) (fun _ W hW => ?_) ?_)
  · subst hW
    try (first | refine gl tb ?_ | refine gg tb ?_ | refine ll tb ?_ | refine lg tb ?_); repeat ((first | refine G.condT rfl ?_ | refine G.condF rfl ?_ | refine sFa tb ?_ | refine sLd tb ?_ | refine sLa tb ?_ | refine sLen tb ?_ | refine sFd tb ?_ | refine sBd tb ?_ | refine sBa tb ?_); try (first | refine gl tb ?_ | refine gg tb ?_ | refine ll tb ?_ | refine lg tb ?_))
    refine sAd tb (r := n - o) ?_
    try (first | refine gl tb ?_ | refine gg tb ?_ | refine ll tb ?_ | refine lg tb ?_); repeat ((first | refine G.condT rfl ?_ | refine G.condF rfl ?_ | refine sFa tb ?_ | refine sLd tb ?_ | refine sLa tb ?_ | refine sLen tb ?_ | refine sFd tb ?_ | refine sBd tb ?_ | refine sBa tb ?_); try (first | refine gl tb ?_ | refine gg tb ?_ | refine ll tb ?_ | refine lg tb ?_))
    first | refine G.condD rfl (fun hc => ?_) (fun hc => ?_) | refine G.condN rfl (fun hc => ?_) (fun hc => ?_) | refine G.cond rfl (fun hc => ?_) (fun hc => ?_)
    · try (first | refine gl tb ?_ | refine gg tb ?_ | refine ll tb ?_ | refine lg tb ?_); repeat ((first | refine G.condT rfl ?_ | refine G.condF rfl ?_ | refine sFa tb ?_ | refine sLd tb ?_ | refine sLa tb ?_ | refine sLen tb ?_ | refine sFd tb ?_ | refine sBd tb ?_ | refine sBa tb ?_); try (first | refine gl tb ?_ | refine gg tb ?_ | refine ll tb ?_ | refine lg tb ?_))
      refine sAd tb (r := n - o + i) ?_
      try (first | refine gl tb ?_ | refine gg tb ?_ | refine ll tb ?_ | refine lg tb ?_); repeat ((first | refine G.condT rfl ?_ | refine G.condF rfl ?_ | refine sFa tb ?_ | refine sLd tb ?_ | refine sLa tb ?_ | refine sLen tb ?_ | refine sFd tb ?_ | refine sBd tb ?_ | refine sBa tb ?_); try (first | refine gl tb ?_ | refine gg tb ?_ | refine ll tb ?_ | refine lg tb ?_))
      refine G.ret1 rfl rfl rfl rfl ?_
      exact ⟨by rw [hbk, if_pos (by omega)], rfl⟩
    · try (first | refine gl tb ?_ | refine gg tb ?_ | refine ll tb ?_ | refine lg tb ?_); repeat ((first | refine G.condT rfl ?_ | refine G.condF rfl ?_ | refine sFa tb ?_ | refine sLd tb ?_ | refine sLa tb ?_ | refine sLen tb ?_ | refine sFd tb ?_ | refine sBd tb ?_ | refine sBa tb ?_); try (first | refine gl tb ?_ | refine gg tb ?_ | refine ll tb ?_ | refine lg tb ?_))
      refine G.ret1 rfl rfl rfl rfl ?_
      exact ⟨by rw [hbk, if_neg (by omega)], rfl⟩
  · first | refine G.condD rfl (fun hc => ?_) (fun hc => ?_) | refine G.condN rfl (fun hc => ?_) (fun hc => ?_) | refine G.cond rfl (fun hc => ?_) (fun hc => ?_)
    · try (first | refine gl tb ?_ | refine gg tb ?_ | refine ll tb ?_ | refine lg tb ?_); repeat ((first | refine G.condT rfl ?_ | refine G.condF rfl ?_ | refine sFa tb ?_ | refine sLd tb ?_ | refine sLa tb ?_ | refine sLen tb ?_ | refine sFd tb ?_ | refine sBd tb ?_ | refine sBa tb ?_); try (first | refine gl tb ?_ | refine gg tb ?_ | refine ll tb ?_ | refine lg tb ?_))
      refine sAd tb (r := n) ?_ (hp := by rw [if_pos hc] at heq; show IntKind.i64.wrap _ = _; rw [wrap_i64 (by omega) (by omega)]; omega)
      try (first | refine gl tb ?_ | refine gg tb ?_ | refine ll tb ?_ | refine lg tb ?_); repeat ((first | refine G.condT rfl ?_ | refine G.condF rfl ?_ | refine sFa tb ?_ | refine sLd tb ?_ | refine sLa tb ?_ | refine sLen tb ?_ | refine sFd tb ?_ | refine sBd tb ?_ | refine sBa tb ?_); try (first | refine gl tb ?_ | refine gg tb ?_ | refine ll tb ?_ | refine lg tb ?_))
      exact G.met () (by repeat (first | exact Sub.nil _ | refine Sub.cons rfl ?_)) rfl
    · rw [if_neg hc] at heq
      subst heq
      try (first | refine gl tb ?_ | refine gg tb ?_ | refine ll tb ?_ | refine lg tb ?_); repeat ((first | refine G.condT rfl ?_ | refine G.condF rfl ?_ | refine sFa tb ?_ | refine sLd tb ?_ | refine sLa tb ?_ | refine sLen tb ?_ | refine sFd tb ?_ | refine sBd tb ?_ | refine sBa tb ?_); try (first | refine gl tb ?_ | refine gg tb ?_ | refine ll tb ?_ | refine lg tb ?_))
      exact G.met () (by repeat (first | exact Sub.nil _ | refine Sub.cons rfl ?_)) rfl
/-- what is told of a time -/
def dueV (d : Option Int) : Value := .tuple ⟨[.int .i64 (d.getD 0), .bool d.isSome]⟩
/-- a target's cells -/
def tgC (a b c : Value) (o : Int) : List Value := [a, b, c, .int .i64 o]
set_option maxHeartbeats 1000000 in
theorem due_ok (a b c : Value) (o i frm to_ : Int) (w : World) (hi : I64 i) (ht : I64 to_) (hf : I64 frm) :
    Ret Tryd.prog 7 ⟨[.agg ⟨tgC a b c o⟩, .int .i64 i, .int .i64 frm, .int .i64 to_]⟩ w fun r w' => r = dueV (Sc.due o i frm to_) ∧ Ext w w' := by
  obtain ⟨hi1, hi2⟩ := hi
  obtain ⟨ht1, ht2⟩ := ht
  refine ret_of_G Tryd.func7 rfl Tryd.ntmps7 rfl ?_
  simp only [argEnv]
  try (first | refine gl tb ?_ | refine gg tb ?_ | refine ll tb ?_ | refine lg tb ?_); repeat ((first | refine G.condT rfl ?_ | refine G.condF rfl ?_ | refine sFa tb ?_ | refine sLd tb ?_ | refine sLa tb ?_ | refine sLen tb ?_ | refine sFd tb ?_ | refine sBd tb ?_ | refine sBa tb ?_); try (first | refine gl tb ?_ | refine gg tb ?_ | refine ll tb ?_ | refine lg tb ?_))
  refine sBox (us := tgC a b c o) (fun W1 hb1 hs1 hx1 => ?_)
  try (first | refine gl tb ?_ | refine gg tb ?_ | refine ll tb ?_ | refine lg tb ?_); repeat ((first | refine G.condT rfl ?_ | refine G.condF rfl ?_ | refine sFa tb ?_ | refine sLd tb ?_ | refine sLa tb ?_ | refine sLen tb ?_ | refine sFd tb ?_ | refine sBd tb ?_ | refine sBa tb ?_); try (first | refine gl tb ?_ | refine gg tb ?_ | refine ll tb ?_ | refine lg tb ?_))
  first | refine G.condD rfl (fun hc => ?_) (fun hc => ?_) | refine G.condN rfl (fun hc => ?_) (fun hc => ?_) | refine G.cond rfl (fun hc => ?_) (fun hc => ?_)
  · have hn : Sc.due o i frm to_ = none := by
      unfold Sc.due
      simp only [Bool.or_eq_true, decide_eq_true_eq] at hc
      rw [if_pos (by omega)]
    try (first | refine gl tb ?_ | refine gg tb ?_ | refine ll tb ?_ | refine lg tb ?_); repeat ((first | refine G.condT rfl ?_ | refine G.condF rfl ?_ | refine sFa tb ?_ | refine sLd tb ?_ | refine sLa tb ?_ | refine sLen tb ?_ | refine sFd tb ?_ | refine sBd tb ?_ | refine sBa tb ?_); try (first | refine gl tb ?_ | refine gg tb ?_ | refine ll tb ?_ | refine lg tb ?_))
    refine G.ret2 rfl rfl rfl rfl rfl ?_
    exact ⟨by rw [hn]; rfl, hx1⟩
  simp only [Bool.or_eq_false_iff, decide_eq_false_iff_not] at hc
  obtain ⟨⟨⟨c1, c2⟩, c3⟩, c4⟩ := hc
  have hbd := Sc.back_bd (t := to_) (o := o) (i := i) (by omega)
  have hdue : Sc.due o i frm to_ = if to_ < -9223372036854775808 + Sc.back to_ o i ∨ to_ - Sc.back to_ o i ≤ frm then none else some (to_ - Sc.back to_ o i) := by
    unfold Sc.due
    rw [if_neg (by omega)]
  try (first | refine gl tb ?_ | refine gg tb ?_ | refine ll tb ?_ | refine lg tb ?_); repeat ((first | refine G.condT rfl ?_ | refine G.condF rfl ?_ | refine sFa tb ?_ | refine sLd tb ?_ | refine sLa tb ?_ | refine sLen tb ?_ | refine sFd tb ?_ | refine sBd tb ?_ | refine sBa tb ?_); try (first | refine gl tb ?_ | refine gg tb ?_ | refine ll tb ?_ | refine lg tb ?_))
  refine sCall c21 (below_ok to_ o i W1 (by omega) (by omega) (by omega) hi2) ?_
  rintro _ W2 ⟨rfl, rfl⟩
  generalize Sc.back to_ o i = m at hbd hdue
  try (first | refine gl tb ?_ | refine gg tb ?_ | refine ll tb ?_ | refine lg tb ?_); repeat ((first | refine G.condT rfl ?_ | refine G.condF rfl ?_ | refine sFa tb ?_ | refine sLd tb ?_ | refine sLa tb ?_ | refine sLen tb ?_ | refine sFd tb ?_ | refine sBd tb ?_ | refine sBa tb ?_); try (first | refine gl tb ?_ | refine gg tb ?_ | refine ll tb ?_ | refine lg tb ?_))
  refine sAd tb (r := -9223372036854775808 + m) ?_
  try (first | refine gl tb ?_ | refine gg tb ?_ | refine ll tb ?_ | refine lg tb ?_); repeat ((first | refine G.condT rfl ?_ | refine G.condF rfl ?_ | refine sFa tb ?_ | refine sLd tb ?_ | refine sLa tb ?_ | refine sLen tb ?_ | refine sFd tb ?_ | refine sBd tb ?_ | refine sBa tb ?_); try (first | refine gl tb ?_ | refine gg tb ?_ | refine ll tb ?_ | refine lg tb ?_))
  refine sAd tb (r := IntKind.i64.wrap (to_ - m)) ?_ (hp := rfl)
  try (first | refine gl tb ?_ | refine gg tb ?_ | refine ll tb ?_ | refine lg tb ?_); repeat ((first | refine G.condT rfl ?_ | refine G.condF rfl ?_ | refine sFa tb ?_ | refine sLd tb ?_ | refine sLa tb ?_ | refine sLen tb ?_ | refine sFd tb ?_ | refine sBd tb ?_ | refine sBa tb ?_); try (first | refine gl tb ?_ | refine gg tb ?_ | refine ll tb ?_ | refine lg tb ?_))
  first | refine G.condD rfl (fun hc => ?_) (fun hc => ?_) | refine G.condN rfl (fun hc => ?_) (fun hc => ?_) | refine G.cond rfl (fun hc => ?_) (fun hc => ?_)
  · have hn : Sc.due o i frm to_ = none := by
      rw [hdue]
      simp only [Bool.or_eq_true, decide_eq_true_eq] at hc
      rw [if_pos]
      rcases hc with h | h
      · exact .inl h
      · by_cases h2 : to_ < -9223372036854775808 + m
        · exact .inl h2
        · rw [wrap_i64 (by omega) (by omega)] at h
          exact .inr h
    try (first | refine gl tb ?_ | refine gg tb ?_ | refine ll tb ?_ | refine lg tb ?_); repeat ((first | refine G.condT rfl ?_ | refine G.condF rfl ?_ | refine sFa tb ?_ | refine sLd tb ?_ | refine sLa tb ?_ | refine sLen tb ?_ | refine sFd tb ?_ | refine sBd tb ?_ | refine sBa tb ?_); try (first | refine gl tb ?_ | refine gg tb ?_ | refine ll tb ?_ | refine lg tb ?_))
    refine G.ret2 rfl rfl rfl rfl rfl ?_
    exact ⟨by rw [hn]; rfl, hx1⟩
  · simp only [Bool.or_eq_false_iff, decide_eq_false_iff_not] at hc
    have hw : IntKind.i64.wrap (to_ - m) = to_ - m := wrap_i64 (by omega) (by omega)
    rw [hw] at hc
    rw [hw]
    try (first | refine gl tb ?_ | refine gg tb ?_ | refine ll tb ?_ | refine lg tb ?_); repeat ((first | refine G.condT rfl ?_ | refine G.condF rfl ?_ | refine sFa tb ?_ | refine sLd tb ?_ | refine sLa tb ?_ | refine sLen tb ?_ | refine sFd tb ?_ | refine sBd tb ?_ | refine sBa tb ?_); try (first | refine gl tb ?_ | refine gg tb ?_ | refine ll tb ?_ | refine lg tb ?_))
    refine sAd tb (r := to_ - m) ?_
    try (first | refine gl tb ?_ | refine gg tb ?_ | refine ll tb ?_ | refine lg tb ?_); repeat ((first | refine G.condT rfl ?_ | refine G.condF rfl ?_ | refine sFa tb ?_ | refine sLd tb ?_ | refine sLa tb ?_ | refine sLen tb ?_ | refine sFd tb ?_ | refine sBd tb ?_ | refine sBa tb ?_); try (first | refine gl tb ?_ | refine gg tb ?_ | refine ll tb ?_ | refine lg tb ?_))
    refine G.ret2 rfl rfl rfl rfl rfl ?_
    exact ⟨by rw [hdue, if_neg (by omega)]; rfl, hx1⟩
set_option maxHeartbeats 1000000 in
theorem last_okR (o i frm to_ : Int) (w : World) (hi : I64 i) (ht : I64 to_) :
    Ret Tryd.prog 22 ⟨[.int .i64 o, .int .i64 i, .int .i64 frm, .int .i64 to_]⟩ w fun r w' => r = dueV (Sc.due o i frm to_) ∧ w' = w := by
  obtain ⟨hi1, hi2⟩ := hi
  obtain ⟨ht1, ht2⟩ := ht
  refine ret_of_G Tryd.func22 rfl Tryd.ntmps22 rfl ?_
  simp only [argEnv]
  try (first | refine gl tb ?_ | refine gg tb ?_ | refine ll tb ?_ | refine lg tb ?_); repeat ((first | refine G.condT rfl ?_ | refine G.condF rfl ?_ | refine sFa tb ?_ | refine sLd tb ?_ | refine sLa tb ?_ | refine sLen tb ?_ | refine sFd tb ?_ | refine sBd tb ?_ | refine sBa tb ?_); try (first | refine gl tb ?_ | refine gg tb ?_ | refine ll tb ?_ | refine lg tb ?_))
  first | refine G.condD rfl (fun hc => ?_) (fun hc => ?_) | refine G.condN rfl (fun hc => ?_) (fun hc => ?_) | refine G.cond rfl (fun hc => ?_) (fun hc => ?_)
  · have hn : Sc.due o i frm to_ = none := by
      unfold Sc.due
      simp only [Bool.or_eq_true, decide_eq_true_eq] at hc
      rw [if_pos (by omega)]
    try (first | refine gl tb ?_ | refine gg tb ?_ | refine ll tb ?_ | refine lg tb ?_); repeat ((first | refine G.condT rfl ?_ | refine G.condF rfl ?_ | refine sFa tb ?_ | refine sLd tb ?_ | refine sLa tb ?_ | refine sLen tb ?_ | refine sFd tb ?_ | refine sBd tb ?_ | refine sBa tb ?_); try (first | refine gl tb ?_ | refine gg tb ?_ | refine ll tb ?_ | refine lg tb ?_))
    refine G.ret2 rfl rfl rfl rfl rfl ?_
    exact ⟨by rw [hn]; rfl, rfl⟩
  simp only [Bool.or_eq_false_iff, decide_eq_false_iff_not] at hc
  obtain ⟨⟨⟨c1, c2⟩, c3⟩, c4⟩ := hc
  have hbd := tmod_bd (t := to_) (i := i) (by omega)
  have heq := tmod_eq (t := to_) (i := i) (by omega)
  have hbk := Sc.back_eq (t := to_) (o := o) (i := i) (by omega) (by omega) (by omega)
  have he := Int.emod_nonneg to_ (show i ≠ 0 by omega)
  have he2 := Int.emod_lt_of_pos to_ (show 0 < i by omega)
  have hbb := Sc.back_bd (t := to_) (o := o) (i := i) (by omega)
  have hdue : Sc.due o i frm to_ = if to_ < -9223372036854775808 + Sc.back to_ o i ∨ to_ - Sc.back to_ o i ≤ frm then none else some (to_ - Sc.back to_ o i) := by
    unfold Sc.due
    rw [if_neg (by omega)]
  try (first | refine gl tb ?_ | refine gg tb ?_ | refine ll tb ?_ | refine lg tb ?_); repeat ((first | refine G.condT rfl ?_ | refine G.condF rfl ?_ | refine sFa tb ?_ | refine sLd tb ?_ | refine sLa tb ?_ | refine sLen tb ?_ | refine sFd tb ?_ | refine sBd tb ?_ | refine sBa tb ?_); try (first | refine gl tb ?_ | refine gg tb ?_ | refine ll tb ?_ | refine lg tb ?_))
  refine sRem rfl ?_
  generalize to_.tmod i = m at hbd heq
  generalize to_ % i = n at hbk he he2 heq
  generalize Sc.back to_ o i = b at hbk hbb hdue
  try (first | refine gl tb ?_ | refine gg tb ?_ | refine ll tb ?_ | refine lg tb ?_); repeat ((first | refine G.condT rfl ?_ | refine G.condF rfl ?_ | refine sFa tb ?_ | refine sLd tb ?_ | refine sLa tb ?_ | refine sLen tb ?_ | refine sFd tb ?_ | refine sBd tb ?_ | refine sBa tb ?_); try (first | refine gl tb ?_ | refine gg tb ?_ | refine ll tb ?_ | refine lg tb ?_))
  refine (G.join (fun _ : Unit => [(0, none, .int .i64 o), (1, none, .int .i64 i), (2, none, .int .i64 frm), (3, none, .int .i64 to_), (10, none, .int .i64 n)]) (fun _ W => W = w) (fun _ W hW => ?_) ?_)
  · subst hW
    try (first | refine gl tb ?_ | refine gg tb ?_ | refine ll tb ?_ | refine lg tb ?_); repeat ((first | refine G.condT rfl ?_ | refine G.condF rfl ?_ | refine sFa tb ?_ | refine sLd tb ?_ | refine sLa tb ?_ | refine sLen tb ?_ | refine sFd tb ?_ | refine sBd tb ?_ | refine sBa tb ?_); try (first | refine gl tb ?_ | refine gg tb ?_ | refine ll tb ?_ | refine lg tb ?_))
    refine sAd tb (r := n - o) ?_
    try (first | refine gl tb ?_ | refine gg tb ?_ | refine ll tb ?_ | refine lg tb ?_); repeat ((first | refine G.condT rfl ?_ | refine G.condF rfl ?_ | refine sFa tb ?_ | refine sLd tb ?_ | refine sLa tb ?_ | refine sLen tb ?_ | refine sFd tb ?_ | refine sBd tb ?_ | refine sBa tb ?_); try (first | refine gl tb ?_ | refine gg tb ?_ | refine ll tb ?_ | refine lg tb ?_))
    refine (G.join (fun _ : Unit => [(2, none, .int .i64 frm), (3, none, .int .i64 to_), (11, none, .int .i64 b)]) (fun _ W' => W' = W) (fun _ W' hW => ?_) ?_)
    · subst hW
      try (first | refine gl tb ?_ | refine gg tb ?_ | refine ll tb ?_ | refine lg tb ?_); repeat ((first | refine G.condT rfl ?_ | refine G.condF rfl ?_ | refine sFa tb ?_ | refine sLd tb ?_ | refine sLa tb ?_ | refine sLen tb ?_ | refine sFd tb ?_ | refine sBd tb ?_ | refine sBa tb ?_); try (first | refine gl tb ?_ | refine gg tb ?_ | refine ll tb ?_ | refine lg tb ?_))
      refine sAd tb (r := -9223372036854775808 + b) ?_
      try (first | refine gl tb ?_ | refine gg tb ?_ | refine ll tb ?_ | refine lg tb ?_); repeat ((first | refine G.condT rfl ?_ | refine G.condF rfl ?_ | refine sFa tb ?_ | refine sLd tb ?_ | refine sLa tb ?_ | refine sLen tb ?_ | refine sFd tb ?_ | refine sBd tb ?_ | refine sBa tb ?_); try (first | refine gl tb ?_ | refine gg tb ?_ | refine ll tb ?_ | refine lg tb ?_))
      refine sAd tb (r := IntKind.i64.wrap (to_ - b)) ?_ (hp := rfl)
      try (first | refine gl tb ?_ | refine gg tb ?_ | refine ll tb ?_ | refine lg tb ?_); repeat ((first | refine G.condT rfl ?_ | refine G.condF rfl ?_ | refine sFa tb ?_ | refine sLd tb ?_ | refine sLa tb ?_ | refine sLen tb ?_ | refine sFd tb ?_ | refine sBd tb ?_ | refine sBa tb ?_); try (first | refine gl tb ?_ | refine gg tb ?_ | refine ll tb ?_ | refine lg tb ?_))
      first | refine G.condD rfl (fun hc => ?_) (fun hc => ?_) | refine G.condN rfl (fun hc => ?_) (fun hc => ?_) | refine G.cond rfl (fun hc => ?_) (fun hc => ?_)
      · have hn : Sc.due o i frm to_ = none := by
          rw [hdue]
          simp only [Bool.or_eq_true, decide_eq_true_eq] at hc
          rw [if_pos]
          rcases hc with h | h
          · exact .inl h
          · by_cases h2 : to_ < -9223372036854775808 + b
            · exact .inl h2
            · rw [wrap_i64 (by omega) (by omega)] at h
              exact .inr h
        try (first | refine gl tb ?_ | refine gg tb ?_ | refine ll tb ?_ | refine lg tb ?_); repeat ((first | refine G.condT rfl ?_ | refine G.condF rfl ?_ | refine sFa tb ?_ | refine sLd tb ?_ | refine sLa tb ?_ | refine sLen tb ?_ | refine sFd tb ?_ | refine sBd tb ?_ | refine sBa tb ?_); try (first | refine gl tb ?_ | refine gg tb ?_ | refine ll tb ?_ | refine lg tb ?_))
        refine G.ret2 rfl rfl rfl rfl rfl ?_
        exact ⟨by rw [hn]; rfl, rfl⟩
      · simp only [Bool.or_eq_false_iff, decide_eq_false_iff_not] at hc
        have hw : IntKind.i64.wrap (to_ - b) = to_ - b := wrap_i64 (by omega) (by omega)
        rw [hw] at hc
        rw [hw]
        try (first | refine gl tb ?_ | refine gg tb ?_ | refine ll tb ?_ | refine lg tb ?_); repeat ((first | refine G.condT rfl ?_ | refine G.condF rfl ?_ | refine sFa tb ?_ | refine sLd tb ?_ | refine sLa tb ?_ | refine sLen tb ?_ | refine sFd tb ?_ | refine sBd tb ?_ | refine sBa tb ?_); try (first | refine gl tb ?_ | refine gg tb ?_ | refine ll tb ?_ | refine lg tb ?_))
        refine sAd tb (r := to_ - b) ?_
        try (first | refine gl tb ?_ | refine gg tb ?_ | refine ll tb ?_ | refine lg tb ?_); repeat ((first | refine G.condT rfl ?_ | refine G.condF rfl ?_ | refine sFa tb ?_ | refine sLd tb ?_ | refine sLa tb ?_ | refine sLen tb ?_ | refine sFd tb ?_ | refine sBd tb ?_ | refine sBa tb ?_); try (first | refine gl tb ?_ | refine gg tb ?_ | refine ll tb ?_ | refine lg tb ?_))
        refine G.ret2 rfl rfl rfl rfl rfl ?_
        exact ⟨by rw [hdue, if_neg (by omega)]; rfl, rfl⟩
    · first | refine G.condD rfl (fun hc => ?_) (fun hc => ?_) | refine G.condN rfl (fun hc => ?_) (fun hc => ?_) | refine G.cond rfl (fun hc => ?_) (fun hc => ?_)
      · rw [if_pos hc] at hbk
        subst hbk
        try (first | refine gl tb ?_ | refine gg tb ?_ | refine ll tb ?_ | refine lg tb ?_); repeat ((first | refine G.condT rfl ?_ | refine G.condF rfl ?_ | refine sFa tb ?_ | refine sLd tb ?_ | refine sLa tb ?_ | refine sLen tb ?_ | refine sFd tb ?_ | refine sBd tb ?_ | refine sBa tb ?_); try (first | refine gl tb ?_ | refine gg tb ?_ | refine ll tb ?_ | refine lg tb ?_))
        refine sAd tb (r := n - o + i) ?_
        try (first | refine gl tb ?_ | refine gg tb ?_ | refine ll tb ?_ | refine lg tb ?_); repeat ((first | refine G.condT rfl ?_ | refine G.condF rfl ?_ | refine sFa tb ?_ | refine sLd tb ?_ | refine sLa tb ?_ | refine sLen tb ?_ | refine sFd tb ?_ | refine sBd tb ?_ | refine sBa tb ?_); try (first | refine gl tb ?_ | refine gg tb ?_ | refine ll tb ?_ | refine lg tb ?_))
        exact G.met () (by repeat (first | exact Sub.nil _ | refine Sub.cons rfl ?_)) rfl
      · rw [if_neg hc] at hbk
        subst hbk
        try (first | refine gl tb ?_ | refine gg tb ?_ | refine ll tb ?_ | refine lg tb ?_); repeat ((first | refine G.condT rfl ?_ | refine G.condF rfl ?_ | refine sFa tb ?_ | refine sLd tb ?_ | refine sLa tb ?_ | refine sLen tb ?_ | refine sFd tb ?_ | refine sBd tb ?_ | refine sBa tb ?_); try (first | refine gl tb ?_ | refine gg tb ?_ | refine ll tb ?_ | refine lg tb ?_))
        exact G.met () (by repeat (first | exact Sub.nil _ | refine Sub.cons rfl ?_)) rfl
  · first | refine G.condD rfl (fun hc => ?_) (fun hc => ?_) | refine G.condN rfl (fun hc => ?_) (fun hc => ?_) | refine G.cond rfl (fun hc => ?_) (fun hc => ?_)
    · try (first | refine gl tb ?_ | refine gg tb ?_ | refine ll tb ?_ | refine lg tb ?_); repeat ((first | refine G.condT rfl ?_ | refine G.condF rfl ?_ | refine sFa tb ?_ | refine sLd tb ?_ | refine sLa tb ?_ | refine sLen tb ?_ | refine sFd tb ?_ | refine sBd tb ?_ | refine sBa tb ?_); try (first | refine gl tb ?_ | refine gg tb ?_ | refine ll tb ?_ | refine lg tb ?_))
      refine sAd tb (r := n) ?_ (hp := by rw [if_pos hc] at heq; show IntKind.i64.wrap _ = _; rw [wrap_i64 (by omega) (by omega)]; omega)
      try (first | refine gl tb ?_ | refine gg tb ?_ | refine ll tb ?_ | refine lg tb ?_); repeat ((first | refine G.condT rfl ?_ | refine G.condF rfl ?_ | refine sFa tb ?_ | refine sLd tb ?_ | refine sLa tb ?_ | refine sLen tb ?_ | refine sFd tb ?_ | refine sBd tb ?_ | refine sBa tb ?_); try (first | refine gl tb ?_ | refine gg tb ?_ | refine ll tb ?_ | refine lg tb ?_))
      exact G.met () (by repeat (first | exact Sub.nil _ | refine Sub.cons rfl ?_)) rfl
    · rw [if_neg hc] at heq
      subst heq
      try (first | refine gl tb ?_ | refine gg tb ?_ | refine ll tb ?_ | refine lg tb ?_); repeat ((first | refine G.condT rfl ?_ | refine G.condF rfl ?_ | refine sFa tb ?_ | refine sLd tb ?_ | refine sLa tb ?_ | refine sLen tb ?_ | refine sFd tb ?_ | refine sBd tb ?_ | refine sBa tb ?_); try (first | refine gl tb ?_ | refine gg tb ?_ | refine ll tb ?_ | refine lg tb ?_))
      exact G.met () (by repeat (first | exact Sub.nil _ | refine Sub.cons rfl ?_)) rfl
theorem refDue_ok (a b c : Value) (o i frm to_ : Int) (w : World) (hi : I64 i) (ht : I64 to_) :
    Ret Tryd.prog 8 ⟨[.agg ⟨tgC a b c o⟩, .int .i64 i, .int .i64 frm, .int .i64 to_]⟩ w fun r w' => r = dueV (Sc.due o i frm to_) ∧ Ext w w' := by
  refine ret_of_G Tryd.func8 rfl Tryd.ntmps8 rfl ?_
  simp only [argEnv]
  try (first | refine gl tb ?_ | refine gg tb ?_ | refine ll tb ?_ | refine lg tb ?_); repeat ((first | refine G.condT rfl ?_ | refine G.condF rfl ?_ | refine sFa tb ?_ | refine sLd tb ?_ | refine sLa tb ?_ | refine sLen tb ?_ | refine sFd tb ?_ | refine sBd tb ?_ | refine sBa tb ?_); try (first | refine gl tb ?_ | refine gg tb ?_ | refine ll tb ?_ | refine lg tb ?_))
  refine sBox (us := tgC a b c o) (fun W1 hb1 hs1 hx1 => ?_)
  try (first | refine gl tb ?_ | refine gg tb ?_ | refine ll tb ?_ | refine lg tb ?_); repeat ((first | refine G.condT rfl ?_ | refine G.condF rfl ?_ | refine sFa tb ?_ | refine sLd tb ?_ | refine sLa tb ?_ | refine sLen tb ?_ | refine sFd tb ?_ | refine sBd tb ?_ | refine sBa tb ?_); try (first | refine gl tb ?_ | refine gg tb ?_ | refine ll tb ?_ | refine lg tb ?_))
  refine sCall c22 (last_okR o i frm to_ W1 hi ht) ?_
  rintro _ W2 ⟨rfl, rfl⟩
  rcases Sc.due o i frm to_ with _ | x
  · simp only [dueV]
    try (first | refine gl tb ?_ | refine gg tb ?_ | refine ll tb ?_ | refine lg tb ?_); repeat ((first | refine G.condT rfl ?_ | refine G.condF rfl ?_ | refine sFa tb ?_ | refine sLd tb ?_ | refine sLa tb ?_ | refine sLen tb ?_ | refine sFd tb ?_ | refine sBd tb ?_ | refine sBa tb ?_); try (first | refine gl tb ?_ | refine gg tb ?_ | refine ll tb ?_ | refine lg tb ?_))
    refine G.ret2 rfl rfl rfl rfl rfl ?_
    exact ⟨rfl, hx1⟩
  · simp only [dueV]
    try (first | refine gl tb ?_ | refine gg tb ?_ | refine ll tb ?_ | refine lg tb ?_); repeat ((first | refine G.condT rfl ?_ | refine G.condF rfl ?_ | refine sFa tb ?_ | refine sLd tb ?_ | refine sLa tb ?_ | refine sLen tb ?_ | refine sFd tb ?_ | refine sBd tb ?_ | refine sBa tb ?_); try (first | refine gl tb ?_ | refine gg tb ?_ | refine ll tb ?_ | refine lg tb ?_))
    refine G.ret2 rfl rfl rfl rfl rfl ?_
    exact ⟨rfl, hx1⟩
/-- n taken into 0 to m - 1 -/
theorem within_ok (n m : Int) (w : World) (hm : 1 ≤ m) (hm2 : m ≤ 9223372036854775807) :
    Ret Tryd.prog 20 ⟨[.int .i64 n, .int .i64 m]⟩ w fun r w' => r = .int .i64 (n % m) ∧ w' = w := by
  have hbd := tmod_bd (t := n) (i := m) (by omega)
  have heq := tmod_eq (t := n) (i := m) (by omega)
  refine ret_of_G Tryd.func20 rfl Tryd.ntmps20 rfl ?_
  simp only [argEnv]
  try (first | refine gl tb ?_ | refine gg tb ?_ | refine ll tb ?_ | refine lg tb ?_); repeat ((first | refine G.condT rfl ?_ | refine G.condF rfl ?_ | refine sFa tb ?_ | refine sLd tb ?_ | refine sLa tb ?_ | refine sLen tb ?_ | refine sFd tb ?_ | refine sBd tb ?_ | refine sBa tb ?_); try (first | refine gl tb ?_ | refine gg tb ?_ | refine ll tb ?_ | refine lg tb ?_))
  refine sRem rfl ?_
  generalize n.tmod m = t at hbd heq
  generalize n % m = r at heq
  try (first | refine gl tb ?_ | refine gg tb ?_ | refine ll tb ?_ | refine lg tb ?_); repeat ((first | refine G.condT rfl ?_ | refine G.condF rfl ?_ | refine sFa tb ?_ | refine sLd tb ?_ | refine sLa tb ?_ | refine sLen tb ?_ | refine sFd tb ?_ | refine sBd tb ?_ | refine sBa tb ?_); try (first | refine gl tb ?_ | refine gg tb ?_ | refine ll tb ?_ | refine lg tb ?_))
  first | refine G.condD rfl (fun hc => ?_) (fun hc => ?_) | refine G.condN rfl (fun hc => ?_) (fun hc => ?_) | refine G.cond rfl (fun hc => ?_) (fun hc => ?_)
  · rw [if_pos hc] at heq
    try (first | refine gl tb ?_ | refine gg tb ?_ | refine ll tb ?_ | refine lg tb ?_); repeat ((first | refine G.condT rfl ?_ | refine G.condF rfl ?_ | refine sFa tb ?_ | refine sLd tb ?_ | refine sLa tb ?_ | refine sLen tb ?_ | refine sFd tb ?_ | refine sBd tb ?_ | refine sBa tb ?_); try (first | refine gl tb ?_ | refine gg tb ?_ | refine ll tb ?_ | refine lg tb ?_))
    refine sAd tb (r := r) ?_ (hp := by show IntKind.i64.wrap _ = _; rw [wrap_i64 (by omega) (by omega)]; omega)
    try (first | refine gl tb ?_ | refine gg tb ?_ | refine ll tb ?_ | refine lg tb ?_); repeat ((first | refine G.condT rfl ?_ | refine G.condF rfl ?_ | refine sFa tb ?_ | refine sLd tb ?_ | refine sLa tb ?_ | refine sLen tb ?_ | refine sFd tb ?_ | refine sBd tb ?_ | refine sBa tb ?_); try (first | refine gl tb ?_ | refine gg tb ?_ | refine ll tb ?_ | refine lg tb ?_))
    refine G.ret1 rfl rfl rfl rfl ?_
    exact ⟨rfl, rfl⟩
  · rw [if_neg hc] at heq
    subst heq
    try (first | refine gl tb ?_ | refine gg tb ?_ | refine ll tb ?_ | refine lg tb ?_); repeat ((first | refine G.condT rfl ?_ | refine G.condF rfl ?_ | refine sFa tb ?_ | refine sLd tb ?_ | refine sLa tb ?_ | refine sLen tb ?_ | refine sFd tb ?_ | refine sBd tb ?_ | refine sBa tb ?_); try (first | refine gl tb ?_ | refine gg tb ?_ | refine ll tb ?_ | refine lg tb ?_))
    refine G.ret1 rfl rfl rfl rfl ?_
    exact ⟨rfl, rfl⟩
end Go.Proofs.YtmkckngecjpklaaDoor
end
section
open Go Go.Vg Go.RowKit Go.Proofs Go.Proofs.YtmkckngecjpklaaDoor
namespace Go.Proofs.YtmkckngecjpklaaDoor.Lab
set_option linter.unusedSimpArgs false

theorem getD_drop (s : List UInt8) (i k : Nat) : (s.drop i).getD k 0 = s.getD (i + k) 0 := by simp [List.getD]
end Go.Proofs.YtmkckngecjpklaaDoor.Lab
end
section
open Go Go.Vg Go.RowKit Go.Proofs Go.Proofs.YtmkckngecjpklaaDoor
namespace Go.Proofs.YtmkckngecjpklaaDoor
set_option linter.unusedSimpArgs false
namespace Lab
def okAt (ls : List Lab) (i : Nat) : Bool := !(!fairB (labAt ls i) || decide ((labAt ls i).2 = []) || decide ((0 : Int) < i) && !Op.bytesLess (labAt ls (i - 1)).1 (labAt ls i).1)
def rightTo (ls : List Lab) (n : Nat) : Prop := ∀ i, i < n → okAt ls i = true
instance (ls : List Lab) (n : Nat) : Decidable (rightTo ls n) := by unfold rightTo; infer_instance
end Lab
end Go.Proofs.YtmkckngecjpklaaDoor
end
section
open Go Go.Vg Go.RowKit Go.Proofs Go.Proofs.YtmkckngecjpklaaDoor
namespace Go.Proofs.YtmkckngecjpklaaDoor
set_option linter.unusedSimpArgs false
namespace Lab
def clipL (x : Lab) : Lab := (x.1, x.2.take 60)
def setS (ls : List Lab) : List Lab := ((ls.take 10).map clipL).foldl setStep []
end Lab
end Go.Proofs.YtmkckngecjpklaaDoor
end
section
open Go Go.Vg Go.RowKit Go.Proofs Go.Proofs.YtmkckngecjpklaaDoor
namespace Go.Proofs.YtmkckngecjpklaaDoor
set_option linter.unusedSimpArgs false

def wx1 : List UInt8 := [40, 46, 42, 41, 45, 40, 46, 42, 41]
def tx1 : Rx.T := .seq [.grp 1 (.seq [.rep 0 (-1) false false (.set [] true)]), .set [(45, 45)] false, .grp 2 (.seq [.rep 0 (-1) false false (.set [] true)])]
theorem comp_wx1 : Rx.comp wx1 = .ok (tx1, 2) := by rfl
def rw0 : Rule := ⟨1, [[97], [98]], [45], wx1, 0, [99], [36, 50, 36, 49]⟩
def wl0 : List Lab.Lab := [([97], [49]), ([98], [50])]
def wl1 : List Lab.Lab := [([97], [49]), ([98], [50]), ([99], [50, 49])]
theorem rule_w0 : ruleR wl0 rw0 tx1 2 = (wl1, true) := by decide +kernel
theorem rule_w1 : ruleR wl1 rw0 tx1 2 = (wl1, true) := by decide +kernel
theorem right_w : rightR rw0 = true := by decide +kernel
theorem rw0_sz : RuleSz rw0 := ⟨by decide, fun s hs => by
  simp only [rw0, List.mem_cons, List.not_mem_nil, or_false] at hs
  rcases hs with rfl | rfl <;> (show _ ≤ _; decide), by decide, by decide, by decide, by decide⟩
theorem rw0_ok (w : World) (sv : Value) (hu : Srcs w rw0 sv) (hT : Tabs w) : RuleOk (fun r ls => ruleR ls r tx1 2) (fun ls => ls = wl0 ∨ ls = wl1) w (rw0, sv) := by
  intro W v cur _ hx hi hv
  refine ⟨rule_okR v sv cur rw0 tx1 2 W hv ?_ ?_ (hu.to hx) rw0_sz comp_wx1 (.inl rfl) ?_ (hT.to hx), fun _ => ?_⟩
  · rcases hi with rfl | rfl <;> (unfold Lab.sortedL; decide +kernel)
  · rcases hi with rfl | rfl <;> decide
  · rcases hi with rfl | rfl <;> decide +kernel
  · rcases hi with rfl | rfl
    · exact .inr (show (ruleR wl0 rw0 tx1 2).1 = wl1 by rw [rule_w0])
    · exact .inr (show (ruleR wl1 rw0 tx1 2).1 = wl1 by rw [rule_w1])
theorem due_w : Sc.due 3 10 0 20 = some 13 := by decide +kernel
set_option maxHeartbeats 1000000 in
theorem wakes_okS (w : World) (hT : Tabs w) : Ret Tryd.prog 9 ⟨[]⟩ w fun r w' => r = .bool true ∧ Ext w w' := by
  refine ret_of_G Tryd.func9 rfl Tryd.ntmps9 rfl ?_
  simp only [argEnv]
  try (first | refine gl tb ?_ | refine gg tb ?_ | refine ll tb ?_ | refine lg tb ?_); repeat ((first | refine G.condT rfl ?_ | refine G.condF rfl ?_ | refine sFa tb ?_ | refine sLd tb ?_ | refine sLa tb ?_ | refine sLen tb ?_ | refine sFd tb ?_ | refine sBd tb ?_ | refine sBa tb ?_); try (first | refine gl tb ?_ | refine gg tb ?_ | refine ll tb ?_ | refine lg tb ?_))
  refine sBs' tb (wl0.map Lab.labC) (fun u1 W1 ho1 hs1 hx1 => ?_) (hkl := Lab.labLen wl0)
  try (first | refine gl tb ?_ | refine gg tb ?_ | refine ll tb ?_ | refine lg tb ?_); repeat ((first | refine G.condT rfl ?_ | refine G.condF rfl ?_ | refine sFa tb ?_ | refine sLd tb ?_ | refine sLa tb ?_ | refine sLen tb ?_ | refine sFd tb ?_ | refine sBd tb ?_ | refine sBa tb ?_); try (first | refine gl tb ?_ | refine gg tb ?_ | refine ll tb ?_ | refine lg tb ?_))
  refine sBs' tb ([[97], [98]].map strC) (fun u2 W2 ho2 hs2 hx2 => ?_) (hkl := by simp [strC])
  obtain ⟨a2, c2, rfl, -⟩ := ho2.sli.len
  try (first | refine gl tb ?_ | refine gg tb ?_ | refine ll tb ?_ | refine lg tb ?_); repeat ((first | refine G.condT rfl ?_ | refine G.condF rfl ?_ | refine sFa tb ?_ | refine sLd tb ?_ | refine sLa tb ?_ | refine sLen tb ?_ | refine sFd tb ?_ | refine sBd tb ?_ | refine sBa tb ?_); try (first | refine gl tb ?_ | refine gg tb ?_ | refine ll tb ?_ | refine lg tb ?_))
  refine sBs' tb ([(rw0, Value.slice a2 2 c2)].map relC2) (fun u3 W3 ho3 hs3 hx3 => ?_) (hfill := by kernel_rfl) (hkl := by simp [relC2, relC])
  try (first | refine gl tb ?_ | refine gg tb ?_ | refine ll tb ?_ | refine lg tb ?_); repeat ((first | refine G.condT rfl ?_ | refine G.condF rfl ?_ | refine sFa tb ?_ | refine sLd tb ?_ | refine sLa tb ?_ | refine sLen tb ?_ | refine sFd tb ?_ | refine sBd tb ?_ | refine sBa tb ?_); try (first | refine gl tb ?_ | refine gg tb ?_ | refine ll tb ?_ | refine lg tb ?_))
  have hx13 := hx2.trans hx3
  have hx03 := hx1.trans hx13
  have hu2 : Srcs W3 rw0 (.slice a2 2 c2) := (ho2.to hx3).sli
  have hrel := relabel_ok (fun r ls => ruleR ls r tx1 2) (fun ls => ls = wl0 ∨ ls = wl1) u1 u3 wl0 [(rw0, .slice a2 2 c2)] W3 (ho1.to hx13).sli (.inl rfl) (by decide) ho3.sli (fun p hp => by
      simp only [List.mem_cons, List.not_mem_nil, or_false] at hp
      subst hp
      exact ⟨hu2, rw0_sz, rw0_ok W3 _ hu2 (hT.to hx03)⟩) (hT.to hx03)
  refine sCall c13 (hrel) ?_
  rintro _ W4 ⟨u, rfl, hl4, hx4⟩
  have e : relF (fun r ls => ruleR ls r tx1 2) ([(rw0, Value.slice a2 2 c2)].map (·.1)) wl0 = (wl1, true) := by
    simp only [List.map_cons, List.map_nil, relF, right_w, if_true, rule_w0]
  simp only [e] at hl4 ⊢
  try (first | refine gl tb ?_ | refine gg tb ?_ | refine ll tb ?_ | refine lg tb ?_); repeat ((first | refine G.condT rfl ?_ | refine G.condF rfl ?_ | refine sFa tb ?_ | refine sLd tb ?_ | refine sLa tb ?_ | refine sLen tb ?_ | refine sFd tb ?_ | refine sBd tb ?_ | refine sBa tb ?_); try (first | refine gl tb ?_ | refine gg tb ?_ | refine ll tb ?_ | refine lg tb ?_))
  refine sCall c7 (due_ok (S []) (.slice none 0 0) (S []) 3 10 0 20 W4 (by decide) (by decide) (by decide)) ?_
  rintro _ W5 ⟨rfl, hx5⟩
  rw [due_w]
  simp only [dueV]
  have hl5 : Lab.Labs W5 u wl1 := (Owns.to hl4 hx5).sli
  have hg2 : (wl1.map Lab.labC)[2]? = some (Lab.labC ([99], [50, 49])) := rfl
  try (first | refine gl tb ?_ | refine gg tb ?_ | refine ll tb ?_ | refine lg tb ?_); repeat ((first | refine G.condT rfl ?_ | refine G.condF rfl ?_ | refine sFa tb ?_ | refine sLd tb ?_ | refine sLa tb ?_ | refine sLen tb ?_ | refine sFd tb ?_ | refine sBd tb ?_ | refine sIa tb 2 ?_); try (first | refine gl tb ?_ | refine gg tb ?_ | refine ll tb ?_ | refine lg tb ?_))
  refine G.ret1 rfl rfl rfl rfl ?_
  exact ⟨rfl, (hx03.trans hx4).trans hx5⟩
end Go.Proofs.YtmkckngecjpklaaDoor
end
section
namespace Go.Vg
open Go.RowKit Go.Deep Go.WideShapes Go
theorem open_aggN {H : Type} {enc : TypeId × Value → H} {P : Program} {w : World} {base : Nat} {spare : Nat → Bool} {held : Bool} {b0 t m : Nat} {fs : Array Field} {v : Value} {d : DataW H} {p : List MemPlace} (hs : P.underlying t = some (.struct fs)) (hone : oneCellFields P fs = true) (hC : P.cellsOf t = m)
    (hv : OkW P w b0 t v) (h : DataW.Trod enc P w base spare held t v d p) :
    ∃ (cs : List Value) (n : Nat), v = .agg ⟨cs⟩ ∧ cs.length = m ∧ ∀ (i : Nat) (f : Field) (c : Value), fs[i]? = some f → cs[i]? = some c → ∃ y, DataW.trod enc P w base spare held n f.type [c] = some y := by
  obtain ⟨cs, rfl, hsz⟩ := okWide_struct hs hv.ok
  obtain ⟨cs⟩ := cs
  obtain ⟨fuel, hf⟩ := h
  obtain ⟨xs, n, _, hx, hl, hlen, hf⟩ := DataW.trod_struct hs hf
  refine ⟨cs, n, rfl, by simpa [hC] using hsz, fun i f c hi hc => ?_⟩
  obtain ⟨o, k⟩ := hone_of hone i f (by simpa using hi)
  have h1 := hf i f (by simpa using hi)
  have hlt : i < xs.length := by
    rw [hlen]
    have := (Array.getElem?_eq_some_iff.1 hi).1
    simpa using this
  refine ⟨xs[i], ?_⟩
  have hcs : (cs.drop i).take 1 = [c] := by
    have hi2 := List.getElem?_eq_some_iff.1 hc
    obtain ⟨h2, rfl⟩ := hi2
    rw [List.drop_eq_getElem_cons h2]; rfl
  simpa [Value.cells, o, k, hcs, hlt] using h1
end Go.Vg
end
section
open Go Go.Vg Go.RowKit Go.Proofs Go.Proofs.YtmkckngecjpklaaDoor
namespace Go.Proofs.YtmkckngecjpklaaDoor
set_option linter.unusedSimpArgs false
open Go.Lib Go.Shelf Go.ChangeShapes Go.WideShapes Go.ChangeAt
theorem int_of {H : Type} {enc : TypeId × Value → H} {P : Program} {w : World} {b : Nat} {sp : Nat → Bool} {hd : Bool} {t n : Nat} {c : Value} (ht : P.underlying t = some (.int .i64)) (h : ∃ y, DataW.trod enc P w b sp hd n t [c] = some y) : ∃ m : Int, c = .int .i64 m ∧ I64 m := by
  obtain ⟨y, hy⟩ := h
  obtain ⟨m, hm, hw⟩ := open_int1 ht hy
  simp only [List.cons.injEq, and_true] at hm
  exact ⟨m, hm, wf_i64 hw⟩
theorem open_stps {H : Type} {enc : TypeId × Value → H} {w : World} {sp : Nat → Bool} {hd : Bool} {b : Nat} {v : Value} {d : DataW H} {p : List MemPlace}
    (hval : OkW Tryd.prog w b 53 v) (h : DataW.Trod enc Tryd.prog w 0 sp hd 53 v d p) : ∃ o i f t s : Int, v = .agg ⟨[.int .i64 o, .int .i64 i, .int .i64 f, .int .i64 t, .int .i64 s]⟩ ∧ I64 o ∧ I64 i ∧ I64 f ∧ I64 t ∧ I64 s := by
  obtain ⟨cs, n, rfl, hl, hf⟩ := open_aggN (tb.ok _ _ rfl) (by kernel_rfl) (m := 5) (by kernel_rfl) hval h
  match cs, hl with
  | [c0, c1, c2, c3, c4], _ =>
    obtain ⟨o, rfl, ho⟩ := int_of (tb.ok _ _ rfl) (hf 0 _ c0 rfl rfl)
    obtain ⟨i, rfl, hi⟩ := int_of (tb.ok _ _ rfl) (hf 1 _ c1 rfl rfl)
    obtain ⟨f, rfl, hf'⟩ := int_of (tb.ok _ _ rfl) (hf 2 _ c2 rfl rfl)
    obtain ⟨t, rfl, ht⟩ := int_of (tb.ok _ _ rfl) (hf 3 _ c3 rfl rfl)
    obtain ⟨s, rfl, hs⟩ := int_of (tb.ok _ _ rfl) (hf 4 _ c4 rfl rfl)
    exact ⟨o, i, f, t, s, rfl, ho, hi, hf', ht, hs⟩
end Go.Proofs.YtmkckngecjpklaaDoor
end
section
open Go Go.Vg Go.RowKit Go.Proofs Go.Proofs.YtmkckngecjpklaaDoor
namespace Go.Proofs.YtmkckngecjpklaaDoor
set_option linter.unusedSimpArgs false

theorem steps_ok (a b c : Value) (o i frm to_ : Int) (w : World) :
    Ret Tryd.prog 19 ⟨[.agg ⟨tgC a b c o⟩, .int .i64 i, .int .i64 frm, .int .i64 to_]⟩ w fun r w' => ∃ bt bi bf bo : Nat, r = .func (.func 27) #[] ⟨[ptr bi, ptr bt, ptr bf, ptr bo]⟩ ∧
      Bx w' bi [.int .i64 i] ∧ Bx w' bt (tgC a b c o) ∧ Bx w' bf [.int .i64 frm] ∧ Bx w' bo [.int .i64 to_] ∧ (w.heap.size ≤ bi ∧ w.heap.size ≤ bt ∧ w.heap.size ≤ bf ∧ w.heap.size ≤ bo) ∧ Ext w w' := by
  refine ret_of_G Tryd.func19 rfl Tryd.ntmps19 rfl ?_
  simp only [argEnv]
  try (first | refine gl tb ?_ | refine gg tb ?_ | refine ll tb ?_ | refine lg tb ?_); repeat ((first | refine G.condT rfl ?_ | refine G.condF rfl ?_ | refine sFa tb ?_ | refine sLd tb ?_ | refine sLa tb ?_ | refine sLen tb ?_ | refine sFd tb ?_ | refine sBd tb ?_ | refine sBa tb ?_); try (first | refine gl tb ?_ | refine gg tb ?_ | refine ll tb ?_ | refine lg tb ?_))
  refine sBox (us := tgC a b c o) (fun W1 hb1 hs1 hx1 => ?_)
  refine sBox (fun W2 hb2 hs2 hx2 => ?_)
  refine sBox (fun W3 hb3 hs3 hx3 => ?_)
  refine sBox (fun W4 hb4 hs4 hx4 => ?_)
  try (first | refine gl tb ?_ | refine gg tb ?_ | refine ll tb ?_ | refine lg tb ?_); repeat ((first | refine G.condT rfl ?_ | refine G.condF rfl ?_); try (first | refine gl tb ?_ | refine gg tb ?_ | refine ll tb ?_ | refine lg tb ?_))
  refine G.ret1 rfl rfl rfl rfl ?_
  exact ⟨_, _, _, _, rfl, (hb2.to hx3).to hx4, ((hb1.to hx2).to hx3).to hx4, hb3.to hx4, hb4, ⟨by omega, by omega, by omega, by omega⟩, ((hx1.trans hx2).trans hx3).trans hx4⟩
/-- what the telling looks at -/
def StD (bi bt bf bo : Nat) (a b c : Value) (o i frm to_ : Int) (W : World) : Prop := Bx W bi [.int .i64 i] ∧ Bx W bt (tgC a b c o) ∧ Bx W bf [.int .i64 frm] ∧ Bx W bo [.int .i64 to_]
def timesL (o i frm to_ : Int) : List (List Value) := (List.range (Sc.manyT frm o i to_)).map fun k => [.int .i64 (Sc.aT frm o i (k + 1))]
theorem steps1_none (bi bt bf bo : Nat) (a b c : Value) (o i frm to_ : Int) (hi : i < 1) : IterOk Tryd.prog 27 [ptr bi, ptr bt, ptr bf, ptr bo] [] (StD bi bt bf bo a b c o i frm to_) := by
  intro l I St w hD hI hSt h0 hY
  refine ret_of_G Tryd.func27 rfl Tryd.ntmps27 rfl ?_
  simp only [argEnv]
  obtain ⟨h1, h2, h3, h4⟩ := hD 0 w h0
  unfold tgC at h2
  try (first | refine gl tb ?_ | refine gg tb ?_ | refine ll tb ?_ | refine lg tb ?_); repeat ((first | refine G.condT rfl ?_ | refine G.condF rfl ?_ | refine sFa tb ?_ | refine sLd tb ?_ | refine sLa tb ?_ | refine sLen tb ?_ | refine sFd tb ?_ | refine sBd tb ?_ | refine sBa tb ?_); try (first | refine gl tb ?_ | refine gg tb ?_ | refine ll tb ?_ | refine lg tb ?_))
  first | refine G.condD rfl (fun hc => ?_) (fun hc => ?_) | refine G.condN rfl (fun hc => ?_) (fun hc => ?_) | refine G.cond rfl (fun hc => ?_) (fun hc => ?_)
  · try (first | refine gl tb ?_ | refine gg tb ?_ | refine ll tb ?_ | refine lg tb ?_); repeat ((first | refine G.condT rfl ?_ | refine G.condF rfl ?_ | refine sFa tb ?_ | refine sLd tb ?_ | refine sLa tb ?_ | refine sLen tb ?_ | refine sFd tb ?_ | refine sBd tb ?_ | refine sBa tb ?_); try (first | refine gl tb ?_ | refine gg tb ?_ | refine ll tb ?_ | refine lg tb ?_))
    exact G.ret0 rfl rfl rfl (.inl h0)
  · exfalso
    simp only [Bool.or_eq_false_iff, decide_eq_false_iff_not] at hc
    omega
set_option maxHeartbeats 1000000 in
theorem steps1_ok (bi bt bf bo : Nat) (a b c : Value) (o i frm to_ : Int) (hi : 1 ≤ i) (hi2 : i ≤ 1000) (ho : 0 ≤ o) (ho2 : o < i) (hf : frm ≤ to_) (hf1 : -1099511627776 ≤ frm) (hf2 : to_ ≤ 1099511627776) :
    IterOk Tryd.prog 27 [ptr bi, ptr bt, ptr bf, ptr bo] (timesL o i frm to_) (StD bi bt bf bo a b c o i frm to_) := by
  intro l I St w hD hI hSt h0 hY
  refine ret_of_G Tryd.func27 rfl Tryd.ntmps27 rfl ?_
  simp only [argEnv]
  obtain ⟨h1, h2, h3, h4⟩ := hD 0 w h0
  unfold tgC at h2
  have hbk := Sc.back_bd (t := frm) (o := o) (i := i) (by omega)
  have hln : (timesL o i frm to_).length = Sc.manyT frm o i to_ := by unfold timesL; simp
  try (first | refine gl tb ?_ | refine gg tb ?_ | refine ll tb ?_ | refine lg tb ?_); repeat ((first | refine G.condT rfl ?_ | refine G.condF rfl ?_ | refine sFa tb ?_ | refine sLd tb ?_ | refine sLa tb ?_ | refine sLen tb ?_ | refine sFd tb ?_ | refine sBd tb ?_ | refine sBa tb ?_); try (first | refine gl tb ?_ | refine gg tb ?_ | refine ll tb ?_ | refine lg tb ?_))
  first | refine G.condD rfl (fun hc => ?_) (fun hc => ?_) | refine G.condN rfl (fun hc => ?_) (fun hc => ?_) | refine G.cond rfl (fun hc => ?_) (fun hc => ?_)
  · simp only [Bool.or_eq_true, decide_eq_true_eq] at hc
    have e : timesL o i frm to_ = [] := by
      unfold timesL
      rw [Sc.many_one hi (by omega)]; rfl
    rw [e]
    try (first | refine gl tb ?_ | refine gg tb ?_ | refine ll tb ?_ | refine lg tb ?_); repeat ((first | refine G.condT rfl ?_ | refine G.condF rfl ?_ | refine sFa tb ?_ | refine sLd tb ?_ | refine sLa tb ?_ | refine sLen tb ?_ | refine sFd tb ?_ | refine sBd tb ?_ | refine sBa tb ?_); try (first | refine gl tb ?_ | refine gg tb ?_ | refine ll tb ?_ | refine lg tb ?_))
    exact G.ret0 rfl rfl rfl (.inl h0)
  simp only [Bool.or_eq_false_iff, decide_eq_false_iff_not] at hc
  try (first | refine gl tb ?_ | refine gg tb ?_ | refine ll tb ?_ | refine lg tb ?_); repeat ((first | refine G.condT rfl ?_ | refine G.condF rfl ?_ | refine sFa tb ?_ | refine sLd tb ?_ | refine sLa tb ?_ | refine sLen tb ?_ | refine sFd tb ?_ | refine sBd tb ?_ | refine sBa tb ?_); try (first | refine gl tb ?_ | refine gg tb ?_ | refine ll tb ?_ | refine lg tb ?_))
  refine sCall c21 (below_ok frm o i w hi ho ho2 (by omega)) ?_
  rintro _ w1 ⟨rfl, hw1⟩
  obtain rfl : w = w1 := hw1.symm
  have e1 : Sc.aT frm o i 1 = frm - Sc.back frm o i + i := by rw [show (1 : Nat) = 0 + 1 from rfl, Sc.aT_succ, Sc.aT_zero]
  generalize Sc.back frm o i = m at hbk e1
  try (first | refine gl tb ?_ | refine gg tb ?_ | refine ll tb ?_ | refine lg tb ?_); repeat ((first | refine G.condT rfl ?_ | refine G.condF rfl ?_ | refine sFa tb ?_ | refine sLd tb ?_ | refine sLa tb ?_ | refine sLen tb ?_ | refine sFd tb ?_ | refine sBd tb ?_ | refine sBa tb ?_); try (first | refine gl tb ?_ | refine gg tb ?_ | refine ll tb ?_ | refine lg tb ?_))
  refine G.regionM [(0, true), (1, true), (2, true), (3, true), (4, true), (5, true)] (Ext w) (by kernel_rfl) (by kernel_rfl) rfl mixed (Ext.drew w) rfl ?_
  try (refine mm tb ?_); repeat ((first | refine dFa tb ?_ | refine dLd tb ?_ | refine dLa tb ?_ | refine dLen tb ?_ | refine dFd tb ?_); try (refine mm tb ?_))
  refine dAd tb (r := i - m) ?_
  try (refine mm tb ?_); repeat ((first | refine dFa tb ?_ | refine dLd tb ?_ | refine dLa tb ?_ | refine dLen tb ?_ | refine dFd tb ?_); try (refine mm tb ?_))
  refine GM.nil ?_
  have hI0 := hI 0 w w.drew h0 (Ext.drew w)
  generalize w.drew = W0 at hI0
  try (first | refine gl tb ?_ | refine gg tb ?_ | refine ll tb ?_ | refine lg tb ?_); repeat ((first | refine G.condT rfl ?_ | refine G.condF rfl ?_ | refine sFa tb ?_ | refine sLd tb ?_ | refine sLa tb ?_ | refine sLen tb ?_ | refine sFd tb ?_ | refine sBd tb ?_ | refine sBa tb ?_); try (first | refine gl tb ?_ | refine gg tb ?_ | refine ll tb ?_ | refine lg tb ?_))
  have hlast : ∀ k : Nat, k ≤ Sc.manyT frm o i to_ → Sc.lastK frm o i k ≤ to_ ∧ frm ≤ Sc.lastK frm o i k := by
    intro k hk
    induction k with
    | zero => exact ⟨hf, Int.le_refl _⟩
    | succ k ih =>
      have h1 := (Sc.many_iff (o := o) hi hf k).2 (by omega)
      have h2 := Sc.lastK_lt (frm := frm) (o := o) hi k
      have h3 := ih (by omega)
      have h4 : Sc.lastK frm o i (k + 1) = Sc.aT frm o i (k + 1) := if_neg (by omega)
      omega
  refine (G.loop (fun k : Nat => [(0, none, yieldV l), (1, none, ptr bi), (4, none, ptr bo), (7, none, .int .i64 (Sc.lastK frm o i k)), (8, none, .int .i64 (Sc.aT frm o i (k + 1) - Sc.lastK frm o i k))]) (fun k W => k ≤ Sc.manyT frm o i to_ ∧ I k W) (fun k => Sc.manyT frm o i to_ - k) 0 ?_ ⟨Nat.zero_le _, hI0⟩ ?_)
  · have e2 : Sc.lastK frm o i 0 = frm := rfl
    rw [e2, e1, show frm - m + i - frm = i - m by omega]
    exact (by repeat (first | exact Sub.nil _ | refine Sub.cons rfl ?_))
  rintro k W ⟨hk, hIk⟩
  have hlk := hlast k hk
  have hlt := Sc.lastK_lt (frm := frm) (o := o) hi k
  obtain ⟨g1, g2, g3, g4⟩ := hD k W hIk
  have hap : Sc.aT frm o i (k + 1) ≤ Sc.lastK frm o i k + i := by
    rw [Sc.aT_succ]
    have := Sc.lastK_ge (frm := frm) (o := o) hi k
    omega
  try (first | refine gl tb ?_ | refine gg tb ?_ | refine ll tb ?_ | refine lg tb ?_); repeat ((first | refine G.condT rfl ?_ | refine G.condF rfl ?_ | refine sFa tb ?_ | refine sLd tb ?_ | refine sLa tb ?_ | refine sLen tb ?_ | refine sFd tb ?_ | refine sBd tb ?_ | refine sBa tb ?_); try (first | refine gl tb ?_ | refine gg tb ?_ | refine ll tb ?_ | refine lg tb ?_))
  refine sAd tb (r := to_ - Sc.lastK frm o i k) ?_
  try (first | refine gl tb ?_ | refine gg tb ?_ | refine ll tb ?_ | refine lg tb ?_); repeat ((first | refine G.condT rfl ?_ | refine G.condF rfl ?_ | refine sFa tb ?_ | refine sLd tb ?_ | refine sLa tb ?_ | refine sLen tb ?_ | refine sFd tb ?_ | refine sBd tb ?_ | refine sBa tb ?_); try (first | refine gl tb ?_ | refine gg tb ?_ | refine ll tb ?_ | refine lg tb ?_))
  refine sAd tb (r := to_ - Sc.lastK frm o i k) ?_
  try (first | refine gl tb ?_ | refine gg tb ?_ | refine ll tb ?_ | refine lg tb ?_); repeat ((first | refine G.condT rfl ?_ | refine G.condF rfl ?_ | refine sFa tb ?_ | refine sLd tb ?_ | refine sLa tb ?_ | refine sLen tb ?_ | refine sFd tb ?_ | refine sBd tb ?_ | refine sBa tb ?_); try (first | refine gl tb ?_ | refine gg tb ?_ | refine ll tb ?_ | refine lg tb ?_))
  first | refine G.condD rfl (fun hc => ?_) (fun hc => ?_) | refine G.condN rfl (fun hc => ?_) (fun hc => ?_) | refine G.cond rfl (fun hc => ?_) (fun hc => ?_)
  · have hle : Sc.aT frm o i (k + 1) ≤ to_ := by
      simp only [Bool.or_eq_true, decide_eq_true_eq] at hc
      omega
    have hkn := (Sc.many_iff (o := o) hi hf k).1 hle
    have hget : (timesL o i frm to_)[k]? = some [.int .i64 (Sc.aT frm o i (k + 1))] := by
      unfold timesL
      rw [List.getElem?_map, List.getElem?_range hkn]; rfl
    try (first | refine gl tb ?_ | refine gg tb ?_ | refine ll tb ?_ | refine lg tb ?_); repeat ((first | refine G.condT rfl ?_ | refine G.condF rfl ?_ | refine sFa tb ?_ | refine sLd tb ?_ | refine sLa tb ?_ | refine sLen tb ?_ | refine sFd tb ?_ | refine sBd tb ?_ | refine sBa tb ?_); try (first | refine gl tb ?_ | refine gg tb ?_ | refine ll tb ?_ | refine lg tb ?_))
    refine sAd tb (r := Sc.aT frm o i (k + 1)) ?_ (hp := by show IntKind.i64.wrap _ = _; rw [wrap_i64 (by omega) (by omega)]; omega)
    try (first | refine gl tb ?_ | refine gg tb ?_ | refine ll tb ?_ | refine lg tb ?_); repeat ((first | refine G.condT rfl ?_ | refine G.condF rfl ?_ | refine sFa tb ?_ | refine sLd tb ?_ | refine sLa tb ?_ | refine sLen tb ?_ | refine sFd tb ?_ | refine sBd tb ?_ | refine sBa tb ?_); try (first | refine gl tb ?_ | refine gg tb ?_ | refine ll tb ?_ | refine lg tb ?_))
    refine GL.cons (Step.yield rfl (Op1.of rfl (by first | exact fun _ => rfl | exact fun h => h | exact fun h => bL h | exact fun h => bL (bL h) | exact fun h => bL (bL (bL h)))) rfl rfl rfl (hY k _ W hget hIk) ?_)
    intro bb w3 hR
    cases bb with
    | true =>
      obtain ⟨q1, q2, q3, q4⟩ := hD (k + 1) w3 hR
      try (first | refine gl tb ?_ | refine gg tb ?_ | refine ll tb ?_ | refine lg tb ?_); repeat ((first | refine G.condT rfl ?_ | refine G.condF rfl ?_ | refine sFa tb ?_ | refine sLd tb ?_ | refine sLa tb ?_ | refine sLen tb ?_ | refine sFd tb ?_ | refine sBd tb ?_ | refine sBa tb ?_); try (first | refine gl tb ?_ | refine gg tb ?_ | refine ll tb ?_ | refine lg tb ?_))
      refine G.lp (x := k) (k + 1) ?_ ⟨by omega, hR⟩ (by omega)
      have e2 : Sc.lastK frm o i (k + 1) = Sc.aT frm o i (k + 1) := if_neg (by omega)
      have e3 : Sc.aT frm o i (k + 1 + 1) - Sc.aT frm o i (k + 1) = i := by rw [Sc.aT_succ frm o i (k + 1)]; omega
      simp only [e2, e3]
      exact (by repeat (first | exact Sub.nil _ | refine Sub.cons rfl ?_))
    | false =>
      try (first | refine gl tb ?_ | refine gg tb ?_ | refine ll tb ?_ | refine lg tb ?_); repeat ((first | refine G.condT rfl ?_ | refine G.condF rfl ?_ | refine sFa tb ?_ | refine sLd tb ?_ | refine sLa tb ?_ | refine sLen tb ?_ | refine sFd tb ?_ | refine sBd tb ?_ | refine sBa tb ?_); try (first | refine gl tb ?_ | refine gg tb ?_ | refine ll tb ?_ | refine lg tb ?_))
      exact G.ret0 rfl rfl rfl (.inr hR)
  · have hle : ¬ Sc.aT frm o i (k + 1) ≤ to_ := by
      simp only [Bool.or_eq_false_iff, decide_eq_false_iff_not] at hc
      omega
    have hkn : ¬ k < Sc.manyT frm o i to_ := fun h => hle ((Sc.many_iff (o := o) hi hf k).2 h)
    try (first | refine gl tb ?_ | refine gg tb ?_ | refine ll tb ?_ | refine lg tb ?_); repeat ((first | refine G.condT rfl ?_ | refine G.condF rfl ?_ | refine sFa tb ?_ | refine sLd tb ?_ | refine sLa tb ?_ | refine sLen tb ?_ | refine sFd tb ?_ | refine sBd tb ?_ | refine sBa tb ?_); try (first | refine gl tb ?_ | refine gg tb ?_ | refine ll tb ?_ | refine lg tb ?_))
    obtain rfl : k = Sc.manyT frm o i to_ := by omega
    exact G.end0 rfl rfl rfl (.inl (by rw [hln]; exact hIk))
end Go.Proofs.YtmkckngecjpklaaDoor
end
section
open Go Go.Vg Go.RowKit Go.Proofs Go.Proofs.YtmkckngecjpklaaDoor
namespace Go.Proofs.YtmkckngecjpklaaDoor
set_option linter.unusedSimpArgs false

set_option maxHeartbeats 8000000 in
theorem steps_law (o i f m s : Int) (w : World) (ho : I64 o) (hi : I64 i) (hf : I64 f) (hm : I64 m) (hs : I64 s) (hT : Tabs w) :
    Ret Tryd.prog 6 ⟨[.agg ⟨[.int .i64 o, .int .i64 i, .int .i64 f, .int .i64 m, .int .i64 s]⟩]⟩ w fun r w' => r = .bool true ∧ Ext w w' := by
  refine ret_of_GM Tryd.func6 rfl Tryd.ntmps6 rfl ?_
  simp only [argEnv]
  try (first | refine gl tb ?_ | refine gg tb ?_ | refine ll tb ?_ | refine lg tb ?_); repeat ((first | refine G.condT rfl ?_ | refine G.condF rfl ?_ | refine sFa tb ?_ | refine sLd tb ?_ | refine sLa tb ?_ | refine sLen tb ?_ | refine sFd tb ?_ | refine sBd tb ?_ | refine sBa tb ?_); try (first | refine gl tb ?_ | refine gg tb ?_ | refine ll tb ?_ | refine lg tb ?_))
  refine sBox (fun W1 hb1 hs1 hx1 => ?_)
  refine sAl tb (fun W2 hb2 hs2 hx2 => ?_)
  have hb1 := hb1.to hx2
  have hx02 := hx1.trans hx2
  try (first | refine gl tb ?_ | refine gg tb ?_ | refine ll tb ?_ | refine lg tb ?_); repeat ((first | refine G.condT rfl ?_ | refine G.condF rfl ?_ | refine sFa tb ?_ | refine sLd tb ?_ | refine sLa tb ?_ | refine sLen tb ?_ | refine sFd tb ?_ | refine sBd tb ?_ | refine sBa tb ?_); try (first | refine gl tb ?_ | refine gg tb ?_ | refine ll tb ?_ | refine lg tb ?_))
  refine G.regionG (Ext W2.drew) mixed (Ext.refl _) ?_
  have hx02 := hx02.drew'
  have hb1 := hb1.to (Ext.drew W2)
  have hb2 := hb2.to (Ext.drew W2)
  have hz2 : W1.heap.size + 1 ≤ W2.drew.heap.size := Nat.le_of_eq hs2.symm
  have hz1 : W1.heap.size = w.heap.size + 1 := hs1
  generalize hB2 : W1.heap.size = B2 at hb2 hz2 hz1 ⊢
  generalize W2.drew = W3 at *
  refine GD.join [11, 10, 9, 8, 7, 6, 5, 4, 3, 2, 1, 0] (fun x : Nat × Nat => [(2, none, ptr B2), (20, none, .int .i64 o), (22, none, .int .i64 i), (24, none, .int .i64 f), (26, none, .int .i64 m), (28, none, .int .i64 s), (4, none, ptr x.1), (7, none, ptr x.2)])
    (fun x w' => Ext W3 w' ∧ Bx w' x.1 [.int .i64 0] ∧ Bx w' x.2 [.int .i64 0] ∧ x.1 ≠ x.2 ∧ W3.heap.size ≤ x.1 ∧ W3.heap.size ≤ x.2) ?_ fun meet => ?_
  rotate_left
  · refine GD.steps ([(0, true), (1, true), (2, true), (3, true), (4, true), (5, true), (6, true), (7, true), (8, true), (9, true)]) (by kernel_rfl) (by kernel_rfl) rfl ?_
    try (refine mm tb ?_); repeat ((first | refine dFa tb ?_ | refine dLd tb ?_ | refine dLa tb ?_ | refine dLen tb ?_ | refine dFd tb ?_); try (refine mm tb ?_))
    refine GM.nil ?_
    refine GD.two (10) (11) (by kernel_rfl) (by kernel_rfl) rfl rfl ?_ ?_
    · refine (Step.alloc tb rfl rfl rfl rfl ?_)
      intro W4 hb4 hs4 hx4
      refine ⟨hx4, ?_⟩
      refine GD.steps ([(11, false)]) (by kernel_rfl) (by kernel_rfl) rfl ?_
      refine GM.eff (Step.alloc tb rfl rfl rfl rfl ?_)
      intro W5 hb5 hs5 hx5
      refine ⟨hx4.trans hx5, ?_⟩
      refine GM.nil ?_
      exact meet (W3.heap.size, W4.heap.size) _ _ _ rfl rfl (by repeat (first | exact Sub.nil _ | refine Sub.cons rfl ?_)) ⟨hx4.trans hx5, hb4.to hx5, hb5, by simp only; omega, Nat.le_refl _, by simp only; omega⟩
    · refine (Step.alloc tb rfl rfl rfl rfl ?_)
      intro W4 hb4 hs4 hx4
      refine ⟨hx4, ?_⟩
      refine GD.steps ([(10, false)]) (by kernel_rfl) (by kernel_rfl) rfl ?_
      refine GM.eff (Step.alloc tb rfl rfl rfl rfl ?_)
      intro W5 hb5 hs5 hx5
      refine ⟨hx4.trans hx5, ?_⟩
      refine GM.nil ?_
      exact meet (W4.heap.size, W3.heap.size) _ _ _ rfl rfl (by repeat (first | exact Sub.nil _ | refine Sub.cons rfl ?_)) ⟨hx4.trans hx5, hb5, hb4.to hx5, by simp only; omega, by simp only; omega, Nat.le_refl _⟩
  rintro ⟨b4, b7⟩ W4 ⟨hx4, hb4, hb7, hne, h34, h37⟩
  simp only at hb4 hb7 hne h34 h37 ⊢
  refine GD.steps ([(12, true), (13, false), (14, true), (15, true), (16, false)]) (by kernel_rfl) (by kernel_rfl) rfl ?_
  try (refine mm tb ?_); repeat ((first | refine dFa tb ?_ | refine dLd tb ?_ | refine dLa tb ?_ | refine dLen tb ?_ | refine dFd tb ?_); try (refine mm tb ?_))
  refine GM.eff (Step.store0 tb rfl (Op1.of rfl (by first | exact fun _ => rfl | exact fun h => h | exact fun h => bL h | exact fun h => bL (bL h) | exact fun h => bL (bL (bL h)))) (Op1.of rfl (by first | exact fun _ => rfl | exact fun h => h | exact fun h => bL h | exact fun h => bL (bL h) | exact fun h => bL (bL (bL h)))) rfl (rfl) rfl (by simp [Value.oneCell']) hb4 rfl ?_)
  intro W5 hb4' hw5
  have hb7' := hb7.wr hw5 (Ne.symm hne)
  have hx35 : Ext W3 W5 := hx4.wr hw5 h34
  refine ⟨hx35, ?_⟩
  try (refine mm tb ?_); repeat ((first | refine dFa tb ?_ | refine dLd tb ?_ | refine dLa tb ?_ | refine dLen tb ?_ | refine dFd tb ?_); try (refine mm tb ?_))
  refine GM.eff (Step.store0 tb rfl (Op1.of rfl (by first | exact fun _ => rfl | exact fun h => h | exact fun h => bL h | exact fun h => bL (bL h) | exact fun h => bL (bL (bL h)))) (Op1.of rfl (by first | exact fun _ => rfl | exact fun h => h | exact fun h => bL h | exact fun h => bL (bL h) | exact fun h => bL (bL (bL h)))) rfl (rfl) rfl (by simp [Value.oneCell']) hb7' rfl ?_)
  intro W6 hb7 hw6
  have hb4 := hb4'.wr hw6 hne
  have hx36 : Ext W3 W6 := hx35.wr hw6 h37
  refine ⟨hx36, ?_⟩
  refine GM.nil ?_
  refine GD.done (by kernel_rfl) ?_
  have hb2 := hb2.to hx36
  have hx06 := hx02.trans hx36
  have hB26 : B2 < W3.heap.size := by omega
  have hz0 : w.heap.size ≤ B2 := by omega
  have hz6 : W3.heap.size ≤ W6.heap.size := hx36.size
  have hl4 := hb4.lt
  have hl7 := hb7.lt
  clear hw5 hw6 hb4' hb7' hx35 hx4 hb1 hx1 hx2 hs1 hs2
  try (first | refine gl tb ?_ | refine gg tb ?_ | refine ll tb ?_ | refine lg tb ?_); repeat ((first | refine G.condT rfl ?_ | refine G.condF rfl ?_ | refine sFa tb ?_ | refine sLd tb ?_ | refine sLa tb ?_ | refine sLen tb ?_ | refine sFd tb ?_ | refine sBd tb ?_ | refine sBa tb ?_); try (first | refine gl tb ?_ | refine gg tb ?_ | refine ll tb ?_ | refine lg tb ?_))
  first | refine G.condD rfl (fun hc => ?_) (fun hc => ?_) | refine G.condN rfl (fun hc => ?_) (fun hc => ?_) | refine G.cond rfl (fun hc => ?_) (fun hc => ?_)
  · try (first | refine gl tb ?_ | refine gg tb ?_ | refine ll tb ?_ | refine lg tb ?_); repeat ((first | refine G.condT rfl ?_ | refine G.condF rfl ?_ | refine sFa tb ?_ | refine sLd tb ?_ | refine sLa tb ?_ | refine sLen tb ?_ | refine sFd tb ?_ | refine sBd tb ?_ | refine sBa tb ?_); try (first | refine gl tb ?_ | refine gg tb ?_ | refine ll tb ?_ | refine lg tb ?_))
    refine sCall c19 (steps_ok (S []) (.slice none 0 0) (S []) o i f f W6) ?_
    rintro _ W7 ⟨bt, bi, bf, bo, rfl, q1, q2, q3, q4, ⟨z1, z2, z3, z4⟩, hx7⟩
    have hb2 := hb2.to hx7
    have hx07 := hx06.trans hx7
    try (first | refine gl tb ?_ | refine gg tb ?_ | refine ll tb ?_ | refine lg tb ?_); repeat ((first | refine G.condT rfl ?_ | refine G.condF rfl ?_ | refine sFa tb ?_ | refine sLd tb ?_ | refine sLa tb ?_ | refine sLen tb ?_ | refine sFd tb ?_ | refine sBd tb ?_ | refine sBa tb ?_); try (first | refine gl tb ?_ | refine gg tb ?_ | refine ll tb ?_ | refine lg tb ?_))
    refine sEqnf tb ?_
    try (first | refine gl tb ?_ | refine gg tb ?_ | refine ll tb ?_ | refine lg tb ?_); repeat ((first | refine G.condT rfl ?_ | refine G.condF rfl ?_ | refine sFa tb ?_ | refine sLd tb ?_ | refine sLa tb ?_ | refine sLen tb ?_ | refine sFd tb ?_ | refine sBd tb ?_ | refine sBa tb ?_); try (first | refine gl tb ?_ | refine gg tb ?_ | refine ll tb ?_ | refine lg tb ?_))
    refine G.rangeFunc rfl rfl c27 (steps1_none bi bt bf bo (S []) (.slice none 0 0) (S []) o i f f hc) rfl rfl (by intro x hx; cases hx)
      (fun _ W => Ext W7 W) (fun _ _ => False) ?_ ?_ ?_ ?_ ?_ ?_ ?_
    · rintro l hl _ W W' h1 hk
      exact Below.kept h1 hk hl h1.size
    · rintro l hl c W W' h1 hk
      exact h1
    · rintro _ W h1
      exact ⟨q1.to h1, q2.to h1, q3.to h1, q4.to h1⟩
    · exact fun w' h => h
    · rintro l r rc k x W hl hlr hxi
      simp at hxi
    · rintro r W hr h1 hD
      have hb2W := hb2.to h1
      try (first | refine gl tb ?_ | refine gg tb ?_ | refine ll tb ?_ | refine lg tb ?_); repeat ((first | refine G.condT rfl ?_ | refine G.condF rfl ?_ | refine sFa tb ?_ | refine sLd tb ?_ | refine sLa tb ?_ | refine sLen tb ?_ | refine sFd tb ?_ | refine sBd tb ?_ | refine sBa tb ?_); try (first | refine gl tb ?_ | refine gg tb ?_ | refine ll tb ?_ | refine lg tb ?_))
      refine sCall c9 (wakes_okS W (hT.to (hx07.trans h1))) ?_
      rintro _ W8 ⟨rfl, hx8⟩
      have hb2W := hb2W.to hx8
      have hD := hD.to hx8
      try (first | refine gl tb ?_ | refine gg tb ?_ | refine ll tb ?_ | refine lg tb ?_); repeat ((first | refine G.condT rfl ?_ | refine G.condF rfl ?_ | refine sFa tb ?_ | refine sLd tb ?_ | refine sLa tb ?_ | refine sLen tb ?_ | refine sFd tb ?_ | refine sBd tb ?_ | refine sBa tb ?_); try (first | refine gl tb ?_ | refine gg tb ?_ | refine ll tb ?_ | refine lg tb ?_))
      refine sSt tb (vs := [.bool true]) (fun W9 hb9 hw9 => ?_)
      have hD9 := hD.wr hb2W hw9
      try (first | refine gl tb ?_ | refine gg tb ?_ | refine ll tb ?_ | refine lg tb ?_); repeat ((first | refine G.condT rfl ?_ | refine G.condF rfl ?_ | refine sFa tb ?_ | refine sLd tb ?_ | refine sLa tb ?_ | refine sLen tb ?_ | refine sFd tb ?_ | refine sBd tb ?_ | refine sBa tb ?_); try (first | refine gl tb ?_ | refine gg tb ?_ | refine ll tb ?_ | refine lg tb ?_))
      refine G.retM rfl rfl hD9 fun t ht => ⟨_, resC1 ht rfl rfl (tb.ok _ _ rfl) rfl (hb9.out hD9).cells.one, rfl, ?_⟩
      exact (((hx07.trans h1).trans hx8).wr hw9 hz0).wr (outW_wr r _) (by have := hx07.size; omega)
    · rintro r c W hr h1
      exact h1.elim
  try (first | refine gl tb ?_ | refine gg tb ?_ | refine ll tb ?_ | refine lg tb ?_); repeat ((first | refine G.condT rfl ?_ | refine G.condF rfl ?_ | refine sFa tb ?_ | refine sLd tb ?_ | refine sLa tb ?_ | refine sLen tb ?_ | refine sFd tb ?_ | refine sBd tb ?_ | refine sBa tb ?_); try (first | refine gl tb ?_ | refine gg tb ?_ | refine ll tb ?_ | refine lg tb ?_))
  refine sCall c20 (within_ok i 1000 W6 (by decide) (by decide)) ?_
  rintro _ W7 ⟨rfl, hw7⟩
  obtain rfl : W6 = W7 := hw7.symm
  have hq1 := Int.emod_nonneg i (show (1000 : Int) ≠ 0 by decide)
  have hq2 := Int.emod_lt_of_pos i (show (0 : Int) < 1000 by decide)
  try (first | refine gl tb ?_ | refine gg tb ?_ | refine ll tb ?_ | refine lg tb ?_); repeat ((first | refine G.condT rfl ?_ | refine G.condF rfl ?_ | refine sFa tb ?_ | refine sLd tb ?_ | refine sLa tb ?_ | refine sLen tb ?_ | refine sFd tb ?_ | refine sBd tb ?_ | refine sBa tb ?_); try (first | refine gl tb ?_ | refine gg tb ?_ | refine ll tb ?_ | refine lg tb ?_))
  refine sAd tb (r := 1 + i % 1000) ?_
  generalize hI : 1 + i % 1000 = I
  have hI1 : 1 ≤ I := by omega
  have hI2 : I ≤ 1000 := by omega
  try (first | refine gl tb ?_ | refine gg tb ?_ | refine ll tb ?_ | refine lg tb ?_); repeat ((first | refine G.condT rfl ?_ | refine G.condF rfl ?_ | refine sFa tb ?_ | refine sLd tb ?_ | refine sLa tb ?_ | refine sLen tb ?_ | refine sFd tb ?_ | refine sBd tb ?_ | refine sBa tb ?_); try (first | refine gl tb ?_ | refine gg tb ?_ | refine ll tb ?_ | refine lg tb ?_))
  refine sSt tb (vs := [.int .i64 I]) (fun W7 hb4 hw7 => ?_)
  have hb2 := hb2.wr hw7 (by omega)
  have hb7 := hb7.wr hw7 (Ne.symm hne)
  have hx07 : Ext w W7 := hx06.wr hw7 (by omega)
  have hz7 : W6.heap.size = W7.heap.size := hw7.size.symm
  clear hw7 hq1 hq2 hI hc
  try (first | refine gl tb ?_ | refine gg tb ?_ | refine ll tb ?_ | refine lg tb ?_); repeat ((first | refine G.condT rfl ?_ | refine G.condF rfl ?_ | refine sFa tb ?_ | refine sLd tb ?_ | refine sLa tb ?_ | refine sLen tb ?_ | refine sFd tb ?_ | refine sBd tb ?_ | refine sBa tb ?_); try (first | refine gl tb ?_ | refine gg tb ?_ | refine ll tb ?_ | refine lg tb ?_))
  refine sCall c20 (within_ok o I W7 hI1 (by omega)) ?_
  rintro _ W8 ⟨rfl, hw8⟩
  obtain rfl : W7 = W8 := hw8.symm
  have hO1 := Int.emod_nonneg o (show I ≠ 0 by omega)
  have hO2 := Int.emod_lt_of_pos o (show 0 < I by omega)
  generalize o % I = O at hO1 hO2
  try (first | refine gl tb ?_ | refine gg tb ?_ | refine ll tb ?_ | refine lg tb ?_); repeat ((first | refine G.condT rfl ?_ | refine G.condF rfl ?_ | refine sFa tb ?_ | refine sLd tb ?_ | refine sLa tb ?_ | refine sLen tb ?_ | refine sFd tb ?_ | refine sBd tb ?_ | refine sBa tb ?_); try (first | refine gl tb ?_ | refine gg tb ?_ | refine ll tb ?_ | refine lg tb ?_))
  refine sAl tb (fun W8 hb9 hs8 hx8 => ?_)
  refine sSt tb ?_ (vs := tgC (S []) (.slice none 0 0) (S []) O) (hv := rfl) (hb := hb9) (h1 := by simp [Value.oneCell', S, tgC])
  intro W9 hb9 hw9
  have hx79 : Ext W7 W9 := Below.wr hx8 hw9 (Nat.le_refl _)
  generalize hB9 : W7.heap.size = B9 at hb9 hs8
  have hb2 := hb2.to hx79
  have hb4 := hb4.to hx79
  have hb7 := hb7.to hx79
  have hx09 := hx07.trans hx79
  have hz9 : B9 + 1 ≤ W9.heap.size := by rw [hw9.size]; omega
  clear hw9 hx8 hs8
  try (first | refine gl tb ?_ | refine gg tb ?_ | refine ll tb ?_ | refine lg tb ?_); repeat ((first | refine G.condT rfl ?_ | refine G.condF rfl ?_ | refine sFa tb ?_ | refine sLd tb ?_ | refine sLa tb ?_ | refine sLen tb ?_ | refine sFd tb ?_ | refine sBd tb ?_ | refine sBa tb ?_); try (first | refine gl tb ?_ | refine gg tb ?_ | refine ll tb ?_ | refine lg tb ?_))
  refine sCall c20 (within_ok f 1099511627776 W9 (by decide) (by decide)) ?_
  rintro _ W10 ⟨rfl, hw10⟩
  obtain rfl : W9 = W10 := hw10.symm
  have hq1 := Int.emod_nonneg f (show (1099511627776 : Int) ≠ 0 by decide)
  have hq2 := Int.emod_lt_of_pos f (show (0 : Int) < 1099511627776 by decide)
  try (first | refine gl tb ?_ | refine gg tb ?_ | refine ll tb ?_ | refine lg tb ?_); repeat ((first | refine G.condT rfl ?_ | refine G.condF rfl ?_ | refine sFa tb ?_ | refine sLd tb ?_ | refine sLa tb ?_ | refine sLen tb ?_ | refine sFd tb ?_ | refine sBd tb ?_ | refine sBa tb ?_); try (first | refine gl tb ?_ | refine gg tb ?_ | refine ll tb ?_ | refine lg tb ?_))
  refine sAd tb (r := f % 1099511627776 - 549755813888) ?_
  generalize hF : f % 1099511627776 - 549755813888 = F
  have hF1 : -549755813888 ≤ F := by omega
  have hF2 : F < 549755813888 := by omega
  clear hF hq1 hq2
  try (first | refine gl tb ?_ | refine gg tb ?_ | refine ll tb ?_ | refine lg tb ?_); repeat ((first | refine G.condT rfl ?_ | refine G.condF rfl ?_ | refine sFa tb ?_ | refine sLd tb ?_ | refine sLa tb ?_ | refine sLen tb ?_ | refine sFd tb ?_ | refine sBd tb ?_ | refine sBa tb ?_); try (first | refine gl tb ?_ | refine gg tb ?_ | refine ll tb ?_ | refine lg tb ?_))
  have hm1 := Int.emod_nonneg m (show (100 : Int) ≠ 0 by decide)
  have hm2 := Int.emod_lt_of_pos m (show (0 : Int) < 100 by decide)
  have hs1 := Int.emod_nonneg s (show I ≠ 0 by omega)
  have hs2 := Int.emod_lt_of_pos s (show 0 < I by omega)
  have hmI : m % 100 * I ≤ 99 * 1000 := Int.mul_le_mul (by omega) hI2 (by omega) (by omega)
  have hmI0 : 0 ≤ m % 100 * I := Int.mul_nonneg hm1 (by omega)
  refine G.regionG (Ext W9.drew) mixed (Ext.refl _) ?_
  have hx09 := hx09.drew'
  have hb2 := hb2.to (Ext.drew W9)
  have hb4 := hb4.to (Ext.drew W9)
  have hb7 := hb7.to (Ext.drew W9)
  have hb9 := hb9.to (Ext.drew W9)
  have hz9 : B9 + 1 ≤ W9.drew.heap.size := hz9
  generalize W9.drew = WA at *
  refine GD.join [10, 9, 8, 7, 6, 5, 4, 3, 2, 1, 0] (fun x : Nat => [(2, none, ptr B2), (4, none, ptr b4), (7, none, ptr b7), (9, none, ptr B9), (5, none, .int .i64 F), (61, none, .int .i64 (F + m % 100 * I + s % I)), (10, none, ptr x)])
    (fun x w' => Ext WA w' ∧ Bx w' x [.int .i64 0] ∧ WA.heap.size ≤ x) ?_ fun meet => ?_
  rotate_left
  · refine GD.steps ([(0, true), (1, true), (3, true), (6, true), (7, true)]) (by kernel_rfl) (by kernel_rfl) rfl ?_
    try (refine mm tb ?_); repeat ((first | refine dFa tb ?_ | refine dLd tb ?_ | refine dLa tb ?_ | refine dLen tb ?_ | refine dFd tb ?_); try (refine mm tb ?_))
    refine GM.nil ?_
    refine GD.two (2) (10) (by kernel_rfl) (by kernel_rfl) rfl rfl ?_ ?_
    · refine (Step.callF rfl rfl rfl c20 rfl (within_ok m 100 WA (by decide) (by decide)) ?_)
      rintro _ WB ⟨rfl, hwB⟩
      obtain rfl : WA = WB := hwB.symm
      refine ⟨Ext.refl _, ?_⟩
      refine GD.steps ([(4, true), (5, true)]) (by kernel_rfl) (by kernel_rfl) rfl ?_
      refine dAd tb (r := m % 100 * I) ?_
      refine dAd tb (r := F + m % 100 * I) ?_
      refine GM.nil ?_
      refine GD.two (8) (10) (by kernel_rfl) (by kernel_rfl) rfl rfl ?_ ?_
      · refine (Step.callF rfl rfl rfl c20 rfl (within_ok s I WA hI1 (by omega)) ?_)
        rintro _ WB ⟨rfl, hwB⟩
        obtain rfl : WA = WB := hwB.symm
        refine ⟨Ext.refl _, ?_⟩
        refine GD.steps ([(9, true), (10, false)]) (by kernel_rfl) (by kernel_rfl) rfl ?_
        refine dAd tb (r := F + m % 100 * I + s % I) ?_
        refine GM.eff (Step.alloc tb rfl rfl rfl rfl ?_)
        intro WB hbB hsB hxB
        refine ⟨hxB, ?_⟩
        refine GM.nil ?_
        exact meet WA.heap.size _ _ _ rfl rfl (by repeat (first | exact Sub.nil _ | refine Sub.cons rfl ?_)) ⟨hxB, hbB, Nat.le_refl _⟩
      · refine (Step.alloc tb rfl rfl rfl rfl ?_)
        intro WB hbB hsB hxB
        refine ⟨hxB, ?_⟩
        refine GD.steps ([(8, false), (9, true)]) (by kernel_rfl) (by kernel_rfl) rfl ?_
        refine GM.eff (Step.callF rfl rfl rfl c20 rfl (within_ok s I WB hI1 (by omega)) ?_)
        rintro _ WC ⟨rfl, hwC⟩
        obtain rfl : WB = WC := hwC.symm
        refine ⟨hxB, ?_⟩
        refine dAd tb (r := F + m % 100 * I + s % I) ?_
        refine GM.nil ?_
        exact meet WA.heap.size _ _ _ rfl rfl (by repeat (first | exact Sub.nil _ | refine Sub.cons rfl ?_)) ⟨hxB, hbB, Nat.le_refl _⟩
    · refine (Step.alloc tb rfl rfl rfl rfl ?_)
      intro WB hbB hsB hxB
      refine ⟨hxB, ?_⟩
      refine GD.steps ([(2, false), (4, true), (5, true), (8, false), (9, true)]) (by kernel_rfl) (by kernel_rfl) rfl ?_
      refine GM.eff (Step.callF rfl rfl rfl c20 rfl (within_ok m 100 WB (by decide) (by decide)) ?_)
      rintro _ WC ⟨rfl, hwC⟩
      obtain rfl : WB = WC := hwC.symm
      refine ⟨hxB, ?_⟩
      refine dAd tb (r := m % 100 * I) ?_
      refine dAd tb (r := F + m % 100 * I) ?_
      refine GM.eff (Step.callF rfl rfl rfl c20 rfl (within_ok s I WB hI1 (by omega)) ?_)
      rintro _ WC ⟨rfl, hwC⟩
      obtain rfl : WB = WC := hwC.symm
      refine ⟨hxB, ?_⟩
      refine dAd tb (r := F + m % 100 * I + s % I) ?_
      refine GM.nil ?_
      exact meet WA.heap.size _ _ _ rfl rfl (by repeat (first | exact Sub.nil _ | refine Sub.cons rfl ?_)) ⟨hxB, hbB, Nat.le_refl _⟩
  rintro bA WB ⟨hxB, hbA, hzA⟩
  generalize hTo : F + m % 100 * I + s % I = To
  have hT1 : F ≤ To := by omega
  have hT2 : To ≤ F + 100000 := by omega
  clear hTo hmI hmI0 hm1 hm2 hs1 hs2
  refine GD.steps ([(11, false)]) (by kernel_rfl) (by kernel_rfl) rfl ?_
  refine GM.eff (Step.store0 tb rfl (Op1.of rfl (by first | exact fun _ => rfl | exact fun h => h | exact fun h => bL h | exact fun h => bL (bL h) | exact fun h => bL (bL (bL h)))) (Op1.of rfl (by first | exact fun _ => rfl | exact fun h => h | exact fun h => bL h | exact fun h => bL (bL h) | exact fun h => bL (bL (bL h)))) rfl (rfl) rfl (by simp [Value.oneCell']) hbA rfl ?_)
  intro WC hbA hwC
  have hxC : Ext WA WC := hxB.wr hwC hzA
  refine ⟨hxC, ?_⟩
  refine GM.nil ?_
  refine GD.done (by kernel_rfl) ?_
  have hb2 := hb2.to hxC
  have hb4 := hb4.to hxC
  have hb7 := hb7.to hxC
  have hb9 := hb9.to hxC
  have hx0C := hx09.trans hxC
  have hzC : WA.heap.size ≤ WC.heap.size := hxC.size
  have hlC : bA < WC.heap.size := hbA.lt
  clear hwC hxB
  try (first | refine gl tb ?_ | refine gg tb ?_ | refine ll tb ?_ | refine lg tb ?_); repeat ((first | refine G.condT rfl ?_ | refine G.condF rfl ?_ | refine sFa tb ?_ | refine sLd tb ?_ | refine sLa tb ?_ | refine sLen tb ?_ | refine sFd tb ?_ | refine sBd tb ?_ | refine sBa tb ?_); try (first | refine gl tb ?_ | refine gg tb ?_ | refine ll tb ?_ | refine lg tb ?_))
  refine sAl tb (fun WD hbl hsD hxD => ?_)
  refine sSt tb (vs := [.int .i64 F]) (fun WE hbl hwE => ?_)
  have hxE : Ext WC WE := Below.wr hxD hwE (Nat.le_refl _)
  have hzE : WE.heap.size = WC.heap.size + 1 := by rw [hwE.size, hsD]
  generalize hBl : WC.heap.size = Bl at hbl hzE
  try (first | refine gl tb ?_ | refine gg tb ?_ | refine ll tb ?_ | refine lg tb ?_); repeat ((first | refine G.condT rfl ?_ | refine G.condF rfl ?_ | refine sFa tb ?_ | refine sLd tb ?_ | refine sLa tb ?_ | refine sLen tb ?_ | refine sFd tb ?_ | refine sBd tb ?_ | refine sBa tb ?_); try (first | refine gl tb ?_ | refine gg tb ?_ | refine ll tb ?_ | refine lg tb ?_))
  refine sAl tb (fun WF hbn hsF hxF => ?_)
  refine sSt tb (vs := [.int .i64 0]) (fun WG hbn hwG => ?_)
  have hxG : Ext WE WG := Below.wr hxF hwG (Nat.le_refl _)
  have hzG : WG.heap.size = WE.heap.size + 1 := by rw [hwG.size, hsF]
  have hxCG := hxE.trans hxG
  generalize hBn : WE.heap.size = Bn at hbn hzG hzE
  have hb2 := hb2.to hxCG
  have hb4 := hb4.to hxCG
  have hb7 := hb7.to hxCG
  have hb9 := hb9.to hxCG
  have hbA := hbA.to hxCG
  have hbl := hbl.to hxG
  have hx0G := hx0C.trans hxCG
  clear hwE hwG hxD hxF hsD hsF hxE hxG hxCG hxC hx09 hx07 hx06 hx36 hx02
  try (first | refine gl tb ?_ | refine gg tb ?_ | refine ll tb ?_ | refine lg tb ?_); repeat ((first | refine G.condT rfl ?_ | refine G.condF rfl ?_ | refine sFa tb ?_ | refine sLd tb ?_ | refine sLa tb ?_ | refine sLen tb ?_ | refine sFd tb ?_ | refine sBd tb ?_ | refine sBa tb ?_); try (first | refine gl tb ?_ | refine gg tb ?_ | refine ll tb ?_ | refine lg tb ?_))
  refine sCall c19 (steps_ok (S []) (.slice none 0 0) (S []) O I F To WG) ?_
  rintro _ W7 ⟨bt, bi, bf, bo, rfl, q1, q2, q3, q4, ⟨z1, z2, z3, z4⟩, hx7⟩
  have hb2 := hb2.to hx7
  have hb4 := hb4.to hx7
  have hb7 := hb7.to hx7
  have hb9 := hb9.to hx7
  have hbA := hbA.to hx7
  have hbl := hbl.to hx7
  have hbn := hbn.to hx7
  have hx07 := hx0G.trans hx7
  try (first | refine gl tb ?_ | refine gg tb ?_ | refine ll tb ?_ | refine lg tb ?_); repeat ((first | refine G.condT rfl ?_ | refine G.condF rfl ?_ | refine sFa tb ?_ | refine sLd tb ?_ | refine sLa tb ?_ | refine sLen tb ?_ | refine sFd tb ?_ | refine sBd tb ?_ | refine sBa tb ?_); try (first | refine gl tb ?_ | refine gg tb ?_ | refine ll tb ?_ | refine lg tb ?_))
  refine sEqnf tb ?_
  try (first | refine gl tb ?_ | refine gg tb ?_ | refine ll tb ?_ | refine lg tb ?_); repeat ((first | refine G.condT rfl ?_ | refine G.condF rfl ?_ | refine sFa tb ?_ | refine sLd tb ?_ | refine sLa tb ?_ | refine sLen tb ?_ | refine sFd tb ?_ | refine sBd tb ?_ | refine sBa tb ?_); try (first | refine gl tb ?_ | refine gg tb ?_ | refine ll tb ?_ | refine lg tb ?_))
  have hzG7 := hx7.size
  have hmt : ∀ k, Sc.aT F O I (k + 1) ≤ To ↔ k < Sc.manyT F O I To := fun k => Sc.many_iff hI1 hT1 k
  have hlast : ∀ k : Nat, F ≤ Sc.lastK F O I k := by
    intro k
    induction k with
    | zero => exact Int.le_refl _
    | succ k ih =>
      have h2 := Sc.lastK_lt (frm := F) (o := O) hI1 k
      have h4 : Sc.lastK F O I (k + 1) = Sc.aT F O I (k + 1) := if_neg (by omega)
      omega
  refine G.rangeFunc rfl rfl c27 (steps1_ok bi bt bf bo (S []) (.slice none 0 0) (S []) O I F To hI1 hI2 hO1 hO2 hT1 (by omega) (by omega)) rfl rfl (by intro x hx; unfold timesL at hx; obtain ⟨y, _, rfl⟩ := List.mem_map.1 hx; rfl)
    (fun k W => Ext w W ∧ Bx W B2 [.bool false] ∧ Bx W b4 [.int .i64 I] ∧ Bx W b7 [.int .i64 s] ∧ Bx W B9 (tgC (S []) (.slice none 0 0) (S []) O) ∧ Bx W bA [.int .i64 To] ∧ Bx W Bl [.int .i64 (Sc.lastK F O I k)] ∧ Bx W Bn [.int .i64 k] ∧ StD bi bt bf bo (S []) (.slice none 0 0) (S []) O I F To W ∧ k ≤ Sc.manyT F O I To)
    (fun c W => c = .ret ∧ Bx W B2 [.bool true] ∧ Ext w W) ?_ ?_ ?_ ?_ ?_ ?_ ?_
  · rintro l hl k W W' ⟨i1, i2, i3, i4, i5, i6, i7, i8, ⟨j1, j2, j3, j4⟩, i9⟩ hk
    exact ⟨Below.kept i1 hk (by have := hx07.size; omega) i1.size, i2.kept hk, i3.kept hk, i4.kept hk, i5.kept hk, i6.kept hk, i7.kept hk, i8.kept hk, ⟨j1.kept hk, j2.kept hk, j3.kept hk, j4.kept hk⟩, i9⟩
  · rintro l hl c W W' ⟨h1, h2, h3⟩ hk
    exact ⟨h1, h2.kept hk, Below.kept h3 hk (by have := hx07.size; omega) h3.size⟩
  · rintro k W ⟨i1, i2, i3, i4, i5, i6, i7, i8, i9, _⟩
    exact i9
  · rintro w' hx
    exact ⟨hx07.trans hx, hb2.to hx, hb4.to hx, hb7.to hx, hb9.to hx, hbA.to hx, hbl.to hx, hbn.to hx, ⟨q1.to hx, q2.to hx, q3.to hx, q4.to hx⟩, Nat.zero_le _⟩
  · rintro l r rc k x W hl hlr hxk ⟨i1, i2, i3, i4, i5, i6, i7, i8, ⟨j1, j2, j3, j4⟩, i9⟩ hLp
    have hkn : k < Sc.manyT F O I To := by
      have := (List.getElem?_eq_some_iff.1 hxk).1
      unfold timesL at this
      simpa using this
    obtain rfl : x = [.int .i64 (Sc.aT F O I (k + 1))] := by
      unfold timesL at hxk
      rw [List.getElem?_map, List.getElem?_range hkn] at hxk
      simpa using hxk.symm
    have hlk := hlast k
    have hlt := Sc.lastK_lt (frm := F) (o := O) hI1 k
    have hap := (hmt k).2 hkn
    have hkb : (k : Int) ≤ 200000 := by
      have h0 := Sc.back_bd (t := F) (o := O) (i := I) (by omega)
      have h1 := hap
      unfold Sc.aT at h1
      have h2 := Int.mul_le_mul_of_nonneg_left hI1 (show (0 : Int) ≤ ((k + 1 : Nat) : Int) by omega)
      generalize ((k + 1 : Nat) : Int) * I = z at h1 h2
      omega
    try (first | refine gl tb ?_ | refine gg tb ?_ | refine ll tb ?_ | refine lg tb ?_); repeat ((first | refine G.condT rfl ?_ | refine G.condF rfl ?_ | refine sFa tb ?_ | refine sLd tb ?_ | refine sLa tb ?_ | refine sLen tb ?_ | refine sFd tb ?_ | refine sBd tb ?_ | refine sBa tb ?_); try (first | refine gl tb ?_ | refine gg tb ?_ | refine ll tb ?_ | refine lg tb ?_))
    refine G.beg rfl rfl rfl hLp hlr ?_
    intro W2 hk hLp2 hsz
    have i1 : Ext w W2 := Below.kept i1 hk (by have := hx07.size; omega) i1.size
    have i2 := i2.kept hk
    have i3 := i3.kept hk
    have i4 := i4.kept hk
    have i5 := i5.kept hk
    have i6 := i6.kept hk
    have i7 := i7.kept hk
    have i8 := i8.kept hk
    have j1 := j1.kept hk
    have j2 := j2.kept hk
    have j3 := j3.kept hk
    have j4 := j4.kept hk
    try (first | refine gl tb ?_ | refine gg tb ?_ | refine ll tb ?_ | refine lg tb ?_); repeat ((first | refine G.condT rfl ?_ | refine G.condF rfl ?_ | refine sFa tb ?_ | refine sLd tb ?_ | refine sLa tb ?_ | refine sLen tb ?_ | refine sFd tb ?_ | refine sBd tb ?_ | refine sBa tb ?_); try (first | refine gl tb ?_ | refine gg tb ?_ | refine ll tb ?_ | refine lg tb ?_))
    refine sAd tb (r := Sc.lastK F O I k + I) ?_
    try (first | refine gl tb ?_ | refine gg tb ?_ | refine ll tb ?_ | refine lg tb ?_); repeat ((first | refine G.condT rfl ?_ | refine G.condF rfl ?_ | refine sFa tb ?_ | refine sLd tb ?_ | refine sLa tb ?_ | refine sLen tb ?_ | refine sFd tb ?_ | refine sBd tb ?_ | refine sBa tb ?_); try (first | refine gl tb ?_ | refine gg tb ?_ | refine ll tb ?_ | refine lg tb ?_))
    refine sCall c8 (refDue_ok (S []) (.slice none 0 0) (S []) O I (Sc.lastK F O I k) (Sc.lastK F O I k + I) W2 ⟨by omega, by omega⟩ ⟨by omega, by omega⟩) ?_
    rintro _ W4 ⟨rfl, hx4⟩
    rw [Sc.due_step hI1 hO1 hO2 k (by omega)]
    simp only [dueV, Option.getD_some, Option.isSome_some]
    have hLp3 := hLp2.to hx4
    have i1 := i1.trans hx4
    have i2 := i2.to hx4
    have i3 := i3.to hx4
    have i4 := i4.to hx4
    have i5 := i5.to hx4
    have i6 := i6.to hx4
    have i7 := i7.to hx4
    have i8 := i8.to hx4
    have j1 := j1.to hx4
    have j2 := j2.to hx4
    have j3 := j3.to hx4
    have j4 := j4.to hx4
    try (first | refine gl tb ?_ | refine gg tb ?_ | refine ll tb ?_ | refine lg tb ?_); repeat ((first | refine G.condT rfl ?_ | refine G.condF rfl ?_ | refine sFa tb ?_ | refine sLd tb ?_ | refine sLa tb ?_ | refine sLen tb ?_ | refine sFd tb ?_ | refine sBd tb ?_ | refine sBa tb ?_); try (first | refine gl tb ?_ | refine gg tb ?_ | refine ll tb ?_ | refine lg tb ?_))
    first | refine G.condD rfl (fun hc => ?_) (fun hc => ?_) | refine G.condN rfl (fun hc => ?_) (fun hc => ?_) | refine G.cond rfl (fun hc => ?_) (fun hc => ?_)
    · exfalso
      simp at hc
      omega
    clear hc
    try (first | refine gl tb ?_ | refine gg tb ?_ | refine ll tb ?_ | refine lg tb ?_); repeat ((first | refine G.condT rfl ?_ | refine G.condF rfl ?_ | refine sFa tb ?_ | refine sLd tb ?_ | refine sLa tb ?_ | refine sLen tb ?_ | refine sFd tb ?_ | refine sBd tb ?_ | refine sBa tb ?_); try (first | refine gl tb ?_ | refine gg tb ?_ | refine ll tb ?_ | refine lg tb ?_))
    refine sSt tb (vs := [.int .i64 (Sc.aT F O I (k + 1))]) (fun W5 g7 hw5 => ?_)
    have hLp4 := hLp3.wr i7 hw5
    have i1 := i1.wr hw5 (by omega)
    have i2 := i2.wr hw5 (by omega)
    have i3 := i3.wr hw5 (by omega)
    have i4 := i4.wr hw5 (by omega)
    have i5 := i5.wr hw5 (by omega)
    have i6 := i6.wr hw5 (by omega)
    have i8 := i8.wr hw5 (by omega)
    have j1 := j1.wr hw5 (by omega)
    have j2 := j2.wr hw5 (by omega)
    have j3 := j3.wr hw5 (by omega)
    have j4 := j4.wr hw5 (by omega)
    clear i7
    try (first | refine gl tb ?_ | refine gg tb ?_ | refine ll tb ?_ | refine lg tb ?_); repeat ((first | refine G.condT rfl ?_ | refine G.condF rfl ?_ | refine sFa tb ?_ | refine sLd tb ?_ | refine sLa tb ?_ | refine sLen tb ?_ | refine sFd tb ?_ | refine sBd tb ?_ | refine sBa tb ?_); try (first | refine gl tb ?_ | refine gg tb ?_ | refine ll tb ?_ | refine lg tb ?_))
    refine sAd tb (r := ((k + 1 : Nat) : Int)) ?_
    try (first | refine gl tb ?_ | refine gg tb ?_ | refine ll tb ?_ | refine lg tb ?_); repeat ((first | refine G.condT rfl ?_ | refine G.condF rfl ?_ | refine sFa tb ?_ | refine sLd tb ?_ | refine sLa tb ?_ | refine sLen tb ?_ | refine sFd tb ?_ | refine sBd tb ?_ | refine sBa tb ?_); try (first | refine gl tb ?_ | refine gg tb ?_ | refine ll tb ?_ | refine lg tb ?_))
    refine sSt tb (vs := [.int .i64 ((k + 1 : Nat) : Int)]) (fun W6 g8 hw6 => ?_)
    have hLp5 := hLp4.wr i8 hw6
    have i1 := i1.wr hw6 (by omega)
    have i2 := i2.wr hw6 (by omega)
    have i3 := i3.wr hw6 (by omega)
    have i4 := i4.wr hw6 (by omega)
    have i5 := i5.wr hw6 (by omega)
    have i6 := i6.wr hw6 (by omega)
    have g7 := g7.wr hw6 (by omega)
    have j1 := j1.wr hw6 (by omega)
    have j2 := j2.wr hw6 (by omega)
    have j3 := j3.wr hw6 (by omega)
    have j4 := j4.wr hw6 (by omega)
    clear i8 hw5 hw6
    have hq1 := Int.emod_nonneg s (show (120 : Int) ≠ 0 by decide)
    have hq2 := Int.emod_lt_of_pos s (show (0 : Int) < 120 by decide)
    try (first | refine gl tb ?_ | refine gg tb ?_ | refine ll tb ?_ | refine lg tb ?_); repeat ((first | refine G.condT rfl ?_ | refine G.condF rfl ?_ | refine sFa tb ?_ | refine sLd tb ?_ | refine sLa tb ?_ | refine sLen tb ?_ | refine sFd tb ?_ | refine sBd tb ?_ | refine sBa tb ?_); try (first | refine gl tb ?_ | refine gg tb ?_ | refine ll tb ?_ | refine lg tb ?_))
    refine G.regionM [(0, true), (1, true), (2, false), (3, true), (4, true)] (Ext W6) (by kernel_rfl) (by kernel_rfl) rfl mixed (Ext.drew W6) rfl ?_
    try (refine mm tb ?_); repeat ((first | refine dFa tb ?_ | refine dLd tb ?_ | refine dLa tb ?_ | refine dLen tb ?_ | refine dFd tb ?_); try (refine mm tb ?_))
    refine GM.eff (Step.callF rfl rfl rfl c20 rfl (within_ok s 120 W6.drew (by decide) (by decide)) ?_)
    rintro _ W8 ⟨rfl, hw8⟩
    obtain rfl : W6.drew = W8 := hw8.symm
    refine ⟨Ext.drew W6, ?_⟩
    refine dAd tb (r := 1 + s % 120) ?_
    try (refine mm tb ?_); repeat ((first | refine dFa tb ?_ | refine dLd tb ?_ | refine dLa tb ?_ | refine dLen tb ?_ | refine dFd tb ?_); try (refine mm tb ?_))
    refine GM.nil ?_
    have hxd := Ext.drew W6
    have hLp6 := hLp5.to hxd
    have i1 : Ext w W6.drew := Ext.trans i1 hxd
    have i2 := i2.to hxd
    first | refine G.condD rfl (fun hc => ?_) (fun hc => ?_) | refine G.condN rfl (fun hc => ?_) (fun hc => ?_) | refine G.cond rfl (fun hc => ?_) (fun hc => ?_)
    · try (first | refine gl tb ?_ | refine gg tb ?_ | refine ll tb ?_ | refine lg tb ?_); repeat ((first | refine G.condT rfl ?_ | refine G.condF rfl ?_ | refine sFa tb ?_ | refine sLd tb ?_ | refine sLa tb ?_ | refine sLen tb ?_ | refine sFd tb ?_ | refine sBd tb ?_ | refine sBa tb ?_); try (first | refine gl tb ?_ | refine gg tb ?_ | refine ll tb ?_ | refine lg tb ?_))
      refine sCall c9 (wakes_okS _ (hT.to i1)) ?_
      rintro _ W9 ⟨rfl, hx9⟩
      have i2 := i2.to hx9
      have hLp7 := hLp6.to hx9
      try (first | refine gl tb ?_ | refine gg tb ?_ | refine ll tb ?_ | refine lg tb ?_); repeat ((first | refine G.condT rfl ?_ | refine G.condF rfl ?_ | refine sFa tb ?_ | refine sLd tb ?_ | refine sLa tb ?_ | refine sLen tb ?_ | refine sFd tb ?_ | refine sBd tb ?_ | refine sBa tb ?_); try (first | refine gl tb ?_ | refine gg tb ?_ | refine ll tb ?_ | refine lg tb ?_))
      refine sSt tb (vs := [.bool true]) (fun WX hbX hwX => ?_)
      try (first | refine gl tb ?_ | refine gg tb ?_ | refine ll tb ?_ | refine lg tb ?_); repeat ((first | refine G.condT rfl ?_ | refine G.condF rfl ?_ | refine sFa tb ?_ | refine sLd tb ?_ | refine sLa tb ?_ | refine sLen tb ?_ | refine sFd tb ?_ | refine sBd tb ?_ | refine sBa tb ?_); try (first | refine gl tb ?_ | refine gg tb ?_ | refine ll tb ?_ | refine lg tb ?_))
      refine G.ret fun t _ => ⟨hLp7.wr i2 hwX, rfl, hbX, (i1.trans hx9).wr hwX (by omega)⟩
    · try (first | refine gl tb ?_ | refine gg tb ?_ | refine ll tb ?_ | refine lg tb ?_); repeat ((first | refine G.condT rfl ?_ | refine G.condF rfl ?_ | refine sFa tb ?_ | refine sLd tb ?_ | refine sLa tb ?_ | refine sLen tb ?_ | refine sFd tb ?_ | refine sBd tb ?_ | refine sBa tb ?_); try (first | refine gl tb ?_ | refine gg tb ?_ | refine ll tb ?_ | refine lg tb ?_))
      have e2 : Sc.lastK F O I (k + 1) = Sc.aT F O I (k + 1) := if_neg (by omega)
      refine G.nil fun t _ => ⟨hLp6, i1, i2, i3.to hxd, i4.to hxd, i5.to hxd, i6.to hxd, ?_, g8.to hxd, ⟨j1.to hxd, j2.to hxd, j3.to hxd, j4.to hxd⟩, hkn⟩
      rw [e2]
      exact g7.to hxd
  · rintro r W hr ⟨i1, i2, i3, i4, i5, i6, i7, i8, i9, i10⟩ hDf
    have hln : (timesL O I F To).length = Sc.manyT F O I To := by unfold timesL; simp
    rw [hln] at i7 i8 i10
    have hno : To < Sc.aT F O I (Sc.manyT F O I To + 1) := by
      have := hmt (Sc.manyT F O I To)
      omega
    try (first | refine gl tb ?_ | refine gg tb ?_ | refine ll tb ?_ | refine lg tb ?_); repeat ((first | refine G.condT rfl ?_ | refine G.condF rfl ?_ | refine sFa tb ?_ | refine sLd tb ?_ | refine sLa tb ?_ | refine sLen tb ?_ | refine sFd tb ?_ | refine sBd tb ?_ | refine sBa tb ?_); try (first | refine gl tb ?_ | refine gg tb ?_ | refine ll tb ?_ | refine lg tb ?_))
    refine sCall c8 (refDue_ok (S []) (.slice none 0 0) (S []) O I (Sc.lastK F O I (Sc.manyT F O I To)) To W ⟨by omega, by omega⟩ ⟨by omega, by omega⟩) ?_
    rintro _ W4 ⟨rfl, hx4⟩
    rw [Sc.due_end hI1 hO1 hO2 _ hno]
    simp only [dueV, Option.getD_none, Option.isSome_none]
    have hD4 := hDf.to hx4
    have i1 := i1.trans hx4
    have i2 := i2.to hx4
    try (first | refine gl tb ?_ | refine gg tb ?_ | refine ll tb ?_ | refine lg tb ?_); repeat ((first | refine G.condT rfl ?_ | refine G.condF rfl ?_ | refine sFa tb ?_ | refine sLd tb ?_ | refine sLa tb ?_ | refine sLen tb ?_ | refine sFd tb ?_ | refine sBd tb ?_ | refine sBa tb ?_); try (first | refine gl tb ?_ | refine gg tb ?_ | refine ll tb ?_ | refine lg tb ?_))
    refine GL.cons (Step.on rfl (by simp) (Step.callO rfl rfl (by repeat (first | exact OpL.nil | refine OpL.cons (Op1.of rfl (by first | exact fun _ => rfl | exact fun _ => by simp [cv])) ?_)) c9 rfl (wakes_okS W4 (hT.to i1)) ?_))
    rintro _ W9 ⟨rfl, hx9⟩
    have i2 := i2.to hx9
    have hD9 := hD4.to hx9
    try (first | refine gl tb ?_ | refine gg tb ?_ | refine ll tb ?_ | refine lg tb ?_); repeat ((first | refine G.condT rfl ?_ | refine G.condF rfl ?_ | refine sFa tb ?_ | refine sLd tb ?_ | refine sLa tb ?_ | refine sLen tb ?_ | refine sFd tb ?_ | refine sBd tb ?_ | refine sBa tb ?_); try (first | refine gl tb ?_ | refine gg tb ?_ | refine ll tb ?_ | refine lg tb ?_))
    refine sSt tb (vs := [.bool true]) (fun WX hbX hwX => ?_)
    have hDX := hD9.wr i2 hwX
    try (first | refine gl tb ?_ | refine gg tb ?_ | refine ll tb ?_ | refine lg tb ?_); repeat ((first | refine G.condT rfl ?_ | refine G.condF rfl ?_ | refine sFa tb ?_ | refine sLd tb ?_ | refine sLa tb ?_ | refine sLen tb ?_ | refine sFd tb ?_ | refine sBd tb ?_ | refine sBa tb ?_); try (first | refine gl tb ?_ | refine gg tb ?_ | refine ll tb ?_ | refine lg tb ?_))
    refine G.retM rfl rfl hDX fun t ht => ⟨_, resC1 ht rfl rfl (tb.ok _ _ rfl) rfl (hbX.out hDX).cells.one, rfl, ?_⟩
    exact ((i1.trans hx9).wr hwX (by omega)).wr (outW_wr r _) (by have := hx07.size; omega)
  · rintro r c W hr ⟨rfl, h2, h3⟩ hDf
    refine G.retM rfl rfl hDf fun t ht => ⟨_, resC1 ht rfl rfl (tb.ok _ _ rfl) rfl (h2.out hDf).cells.one, rfl, ?_⟩
    exact h3.wr (outW_wr r _) (by have := hx07.size; omega)
end Go.Proofs.YtmkckngecjpklaaDoor
end
section
open Go Go.Vg Go.RowKit Go.Proofs Go.Proofs.YtmkckngecjpklaaDoor
namespace Go.Proofs.YtmkckngecjpklaaDoor
set_option linter.unusedSimpArgs false
open Go.Lib Go.Shelf Go.ChangeShapes Go.WideShapes Go.ChangeAt

set_option maxRecDepth 100000 in
theorem contract_scrapeSteps (H : Type) (enc : TypeId × Value → H) (W : World) (base : Nat) (args : Array Value) (ds gs : List (DataW H)) (before : List MemPlace)
    (hval : ∀ (j : Nat) t v, Tryd.f6.params[j]? = some t → args[j]? = some v → Value.okWide Tryd.prog W .any base t v)
    (hW : DataW.Whole enc Tryd.prog Tryd.f6.params.toList Rows.scrapeStepsSpec.vars false W args.toList ds gs before) (hL : laidMetH Tryd.prog Rows.scrapeStepsRow.laid W) :
    Calls Tryd.prog 6 args W fun e W' => ∃ v, e = .returned v ∧ Rows.scrapeStepsSpec.post enc Tryd.prog Tryd.f6 false true false false W args v W' := by
  have hW' := hW
  obtain ⟨p, q, hA0, hV, rfl, hfz, hnd⟩ := hW
  have hA : DataW.TrodAll enc Tryd.prog W 0 (fun _ => true) true Tryd.f6.params.toList args.toList ds p := hA0
  rw [Tryd.params6] at hA hval
  obtain ⟨v0, vs0, d0, ds0, p0, q0, hargs, rfl, rfl, h0, r0⟩ := trodAll_cons hA
  obtain ⟨rfl, rfl, rfl⟩ := trodAll_nil r0
  obtain rfl : args = #[v0] := by cases args; simp_all
  have k0 := OkW.mk (hval 0 _ v0 rfl rfl)
  obtain ⟨no0, ni0, nf0, nt0, ns0, rfl, ho0, hi0, hf0, ht0, hs0⟩ := open_stps k0 h0
  refine Calls.mono (steps_law no0 ni0 nf0 nt0 ns0 W ho0 hi0 hf0 ht0 hs0 (tabs hL)) ?_
  rintro e W' ⟨v, rfl, rfl, hx⟩
  exact ⟨_, rfl, law_post laidOut (by kernel_rfl) (tb := 4) rfl (tb.ok _ _ rfl) rfl hW' rfl hx⟩
theorem reads_scrapeSteps (os : Os) {H : Type} (enc : TypeId × Value → H) : ∃ places, DataW.whole enc Tryd.prog ((laidWorld os).forCall (fun _ _ => 0) ⟨#[], #[.agg #[.int .i64 0, .int .i64 0, .int .i64 0, .int .i64 0, .int .i64 0]], []⟩).memory Tryd.f6.params.toList Rows.scrapeStepsSpec.vars false #[.agg #[.int .i64 0, .int .i64 0, .int .i64 0, .int .i64 0, .int .i64 0]].toList 8 = some ([.agg [.lit (.int .i64 0), .lit (.int .i64 0), .lit (.int .i64 0), .lit (.int .i64 0), .lit (.int .i64 0)]], [], places) :=
  ⟨[], by kernel_rfl⟩
set_option maxRecDepth 100000 in
theorem lifted_scrapeSteps (os : Os) (started : os.Started) (H : Type) (enc : TypeId × Value → H) (F : Stop.Interp) :
    ReturnsInHanded {} Tryd.checked os 6 .any ((OpenSpec.ofChange Rows.scrapeStepsSpec).preRow enc Tryd.prog Tryd.f6 Rows.scrapeStepsRow.domain false Rows.scrapeStepsRow.laid) (((OpenSpec.ofChange Rows.scrapeStepsSpec).at F).post enc Tryd.prog Tryd.f6 false true false false) := by
  obtain ⟨places, hx⟩ := reads_scrapeSteps os enc
  refine returnsInHanded_of_row (C := Tryd.checked) (s := OpenSpec.ofChange Rows.scrapeStepsSpec) own started (by kernel_rfl) Tryd.func6
    (witness_row_at (enc := enc) (C := Tryd.checked) false (laidWorld os) #[.agg #[.int .i64 0, .int .i64 0, .int .i64 0, .int .i64 0, .int .i64 0]] rfl (by kernel_rfl) (by kernel_rfl) (by kernel_rfl)
      (OpenSpec.preRow_of_cond 8 hx (by kernel_rfl) (fun k hk => by cases hk) (by kernel_rfl) (laid_met os _))) ?_
  intro W base args ds gs before hval hW _ _ _ hL _ _
  exact contract_scrapeSteps H enc W base args ds gs before hval hW hL
theorem said_scrapeSteps : Rows.ScrapeStepsSaid :=
  OpenClaim.holds_of_cond 6 Tryd.f6 rfl rfl rfl rfl rfl rfl rfl ⟨rfl, rfl, rfl, rfl, rfl⟩ rfl rfl rfl rfl rfl (by kernel_rfl) Tryd.func6 (by kernel_rfl)
    (of_decide_eq_true (by kernel_rfl)) (by unfold Func.isWrapper; first | (rw [if_pos (by decide +kernel)]; kernel_rfl) | (rw [if_neg (by decide +kernel)]; exact ⟨rfl, rfl⟩))
    (fun os started H enc _ F => by rw [OpenClaim.pre_eq_preRow]; exact lifted_scrapeSteps os started H enc F)
theorem plain_scrapeSteps (f : FuncId) (fn : Func) (hf : Tryd.pinned.checked.prog.funcNamed "vigil/vigillaw12.ScrapeSteps" = some f) (hfn : Tryd.pinned.checked.prog.funcs[f]? = some fn) :
    true = Tryd.pinned.checked.prog.looks [] ∧ ∀ (j : Nat) t, fn.params[j]? = some t → Tryd.pinned.checked.prog.wantsStandIn t = false := by
  obtain rfl : f = 6 := Option.some.inj ((show Tryd.prog.funcNamed "vigil/vigillaw12.ScrapeSteps" = some 6 by kernel_rfl).symm.trans hf) |>.symm
  obtain rfl : fn = Tryd.f6 := (Option.some.inj (Tryd.func6.symm.trans hfn)).symm
  refine ⟨by kernel_rfl, fun j t ht => ?_⟩
  rw [Tryd.params6] at ht
  have hm : t ∈ #[53] := Array.mem_of_getElem? ht
  simp only [List.mem_toArray, List.mem_cons, List.not_mem_nil, or_false] at hm
  rcases hm with rfl
  · exact (show Tryd.prog.wantsStandIn 53 = false by kernel_rfl)
/-- ScrapeSteps: of any offset and interval, the times at which a target is due are told one behind the other, rising, as far as it is asked. -/
theorem ScrapeSteps_holds : Rows.ScrapeStepsCardSaid :=
  Claim7.holds_tied_plain_at .later [] _ _ _ _ said_scrapeSteps (fun _ h => by cases h) (by kernel_rfl) (fun _ h => by cases h) scrapeSteps_row_tie rfl ⟨rfl, rfl⟩ (by kernel_rfl) rfl plain_scrapeSteps (by kernel_rfl)
end Go.Proofs.YtmkckngecjpklaaDoor
end
