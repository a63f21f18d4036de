/- ScrapeDue: of any offset, interval and times, when a target is due is told as the reference tells it, and once in an interval. Conditions: none beyond the statement's own. -/
import Derived.Test.YtmkckngecjpklaaDoorP08
import Derived.Lib.ValidLaws
import Derived.Lib.SmallJoins
section
open Go Go.Vg Go.RowKit Go.Proofs Go.Proofs.YtmkckngecjpklaaDoor
namespace Go.Proofs.YtmkckngecjpklaaDoor
set_option linter.unusedSimpArgs false

def relF (F : Rule → List Lab.Lab → List Lab.Lab × Bool) : List Rule → List Lab.Lab → List Lab.Lab × Bool
  | [], ls => (ls, true)
  | r :: rs, ls => if rightR r = true then (if (F r ls).2 = true then relF F rs (F r ls).1 else ([], false)) else relF F rs ls
abbrev relC2 (p : Rule × Value) : List Value := relC p.1 p.2
/-- what a rule's walk must show -/
def RuleOk (F : Rule → List Lab.Lab → List Lab.Lab × Bool) (Inv : List Lab.Lab → Prop) (w : World) (p : Rule × Value) : Prop :=
  ∀ W v cur, rightR p.1 = true → Ext w W → Inv cur → Lab.Labs W v cur →
    Ret Tryd.prog 26 ⟨[v, .agg ⟨relC p.1 p.2⟩]⟩ W (fun x w' => ∃ u, x = .tuple ⟨[u, .bool (F p.1 cur).2]⟩ ∧ Lab.Labs w' u (F p.1 cur).1 ∧ Ext W w') ∧ ((F p.1 cur).2 = true → Inv (F p.1 cur).1)
theorem relC_one {r : Rule} {sv : Value} {w : World} (h : Srcs w r sv) : ∀ c ∈ relC r sv, c.oneCell' = true := by
  obtain ⟨a, cap, rfl, _⟩ := h.len
  simp [relC, Value.oneCell', S]
theorem relabel_ok (F : Rule → List Lab.Lab → List Lab.Lab × Bool) (Inv : List Lab.Lab → Prop) (v us : Value) (ls : List Lab.Lab) (rs : List (Rule × Value)) (w : World) (hv : Lab.Labs w v ls) (hi : Inv ls) (hn : ls.length ≤ 1000)
    (hu : Sli w us 7 (rs.map relC2)) (hsr : ∀ p ∈ rs, Srcs w p.1 p.2 ∧ RuleSz p.1 ∧ RuleOk F Inv w p) (hT : Tabs w) :
    Ret Tryd.prog 13 ⟨[v, us]⟩ w fun x w' => ∃ u, x = .tuple ⟨[u, .bool (relF F (rs.map (·.1)) ls).2]⟩ ∧ Lab.Labs w' u (relF F (rs.map (·.1)) ls).1 ∧ Ext w w' := by
  have hbd := hu.bound
  rw [List.length_map] at hbd
  refine ret_of_G Tryd.func13 rfl Tryd.ntmps13 rfl ?_
  simp only [argEnv]
  try (first | refine gl tb ?_ | refine gg tb ?_ | refine ll tb ?_ | refine lg tb ?_); repeat ((first | refine G.condT rfl ?_ | refine G.condF rfl ?_ | refine sFa tb ?_ | refine sLd tb ?_ | refine sLa tb ?_ | refine sLen tb ?_ | refine sFd tb ?_ | refine sBd tb ?_ | refine sBa tb ?_); try (first | refine gl tb ?_ | refine gg tb ?_ | refine ll tb ?_ | refine lg tb ?_))
  refine G.scope rfl rfl ?_
  try (first | refine gl tb ?_ | refine gg tb ?_ | refine ll tb ?_ | refine lg tb ?_); repeat ((first | refine G.condT rfl ?_ | refine G.condF rfl ?_ | refine sFa tb ?_ | refine sLd tb ?_ | refine sLa tb ?_ | refine sLen tb ?_ | refine sFd tb ?_ | refine sBd tb ?_ | refine sBa tb ?_); try (first | refine gl tb ?_ | refine gg tb ?_ | refine ll tb ?_ | refine lg tb ?_))
  refine sApp tb (Owns.nil w w.heap.size 42 2) hv ?_ (h1 := Lab.lab1 ls) (hB := Nat.le_refl _)
  intro v1 W1 ho1 hg1
  have hx1 : Ext w W1 := hg1.below _ (Ext.refl _)
  have hv1 := ho1.sli
  rw [List.nil_append] at hv1
  have hu1 := hu.to hx1
  try (first | refine gl tb ?_ | refine gg tb ?_ | refine ll tb ?_ | refine lg tb ?_); repeat ((first | refine G.condT rfl ?_ | refine G.condF rfl ?_ | refine sFa tb ?_ | refine sLd tb ?_ | refine sLa tb ?_ | refine sLen tb ?_ | refine sFd tb ?_ | refine sBd tb ?_ | refine sBa tb ?_); try (first | refine gl tb ?_ | refine gg tb ?_ | refine ll tb ?_ | refine lg tb ?_))
  refine G.label ?_
  try (first | refine gl tb ?_ | refine gg tb ?_ | refine ll tb ?_ | refine lg tb ?_); repeat ((first | refine G.condT rfl ?_ | refine G.condF rfl ?_ | refine sFa tb ?_ | refine sLd tb ?_ | refine sLa tb ?_ | refine sLen tb ?_ | refine sFd tb ?_ | refine sBd tb ?_ | refine sBa tb ?_); try (first | refine gl tb ?_ | refine gg tb ?_ | refine ll tb ?_ | refine lg tb ?_))
  rw [List.length_map]
  try (first | refine gl tb ?_ | refine gg tb ?_ | refine ll tb ?_ | refine lg tb ?_); repeat ((first | refine G.condT rfl ?_ | refine G.condF rfl ?_ | refine sFa tb ?_ | refine sLd tb ?_ | refine sLa tb ?_ | refine sLen tb ?_ | refine sFd tb ?_ | refine sBd tb ?_ | refine sBa tb ?_); try (first | refine gl tb ?_ | refine gg tb ?_ | refine ll tb ?_ | refine lg tb ?_))
  refine (G.loop (fun x : Nat × Value × List Lab.Lab => [(0, none, x.2.1), (1, none, us), (6, none, .bool true), (11, none, us), (12, none, .int .i64 rs.length), (13, none, .int .i64 x.1)])
    (fun x W => Ext w W ∧ x.1 ≤ rs.length ∧ Lab.Labs W x.2.1 x.2.2 ∧ Inv x.2.2 ∧ relF F (rs.map (·.1)) ls = relF F ((rs.drop x.1).map (·.1)) x.2.2) (fun x => rs.length - x.1) (0, v1, ls) (by repeat (first | exact Sub.nil _ | refine Sub.cons rfl ?_)) ⟨hx1, Nat.zero_le _, hv1, hi, rfl⟩ ?_)
  rintro ⟨k, s, cur⟩ W ⟨hx, hk, hs, hic, he⟩
  simp only at hk hs hic he ⊢
  have huW := hu.to hx
  try (first | refine gl tb ?_ | refine gg tb ?_ | refine ll tb ?_ | refine lg tb ?_); repeat ((first | refine G.condT rfl ?_ | refine G.condF rfl ?_ | refine sFa tb ?_ | refine sLd tb ?_ | refine sLa tb ?_ | refine sLen tb ?_ | refine sFd tb ?_ | refine sBd tb ?_ | refine sBa tb ?_); try (first | refine gl tb ?_ | refine gg tb ?_ | refine ll tb ?_ | refine lg tb ?_))
  first | refine G.condD rfl (fun hc => ?_) (fun hc => ?_) | refine G.condN rfl (fun hc => ?_) (fun hc => ?_) | refine G.cond rfl (fun hc => ?_) (fun hc => ?_)
  · have hlt : k < rs.length := by omega
    have hget : (rs.map relC2)[k]? = some (relC2 rs[k]) := by simp [hlt]
    have hmem : rs[k] ∈ rs := List.getElem_mem hlt
    have hdr : rs.drop k = rs[k] :: rs.drop (k + 1) := List.drop_eq_getElem_cons hlt
    generalize rs[k] = p at hget hmem hdr
    obtain ⟨hsr, hsz, hok⟩ := hsr p hmem
    rw [hdr, List.map_cons] at he
    try (first | refine gl tb ?_ | refine gg tb ?_ | refine ll tb ?_ | refine lg tb ?_); repeat ((first | refine G.condT rfl ?_ | refine G.condF rfl ?_ | refine sFa tb ?_ | refine sLd tb ?_ | refine sLa tb ?_ | refine sLen tb ?_ | refine sFd tb ?_ | refine sBd tb ?_ | refine sIa tb k ?_); try (first | refine gl tb ?_ | refine gg tb ?_ | refine ll tb ?_ | refine lg tb ?_))
    refine sAl tb ?_
    intro W2 hb2 hs2 hx2
    refine sSt tb ?_ (vs := relC2 p) (hv := rfl) (hb := hb2) (h1 := relC_one hsr)
    intro W3 hb3 hw3
    have hx3 : Ext W W3 := Below.wr hx2 hw3 (Nat.le_refl _)
    have hx03 := hx.trans hx3
    try (first | refine gl tb ?_ | refine gg tb ?_ | refine ll tb ?_ | refine lg tb ?_); repeat ((first | refine G.condT rfl ?_ | refine G.condF rfl ?_ | refine sFa tb ?_ | refine sLd tb ?_ | refine sLa tb ?_ | refine sLen tb ?_ | refine sFd tb ?_ | refine sBd tb ?_ | refine sBa tb ?_); try (first | refine gl tb ?_ | refine gg tb ?_ | refine ll tb ?_ | refine lg tb ?_))
    refine sCall c12 (right_okR p.2 p.1 W3 (hsr.to hx03) hsz (hT.to hx03)) ?_
    rintro _ W4 ⟨rfl, hx4⟩
    have hx04 := hx03.trans hx4
    have hb4 := hb3.to hx4
    try (first | refine gl tb ?_ | refine gg tb ?_ | refine ll tb ?_ | refine lg tb ?_); repeat ((first | refine G.condT rfl ?_ | refine G.condF rfl ?_ | refine sFa tb ?_ | refine sLd tb ?_ | refine sLa tb ?_ | refine sLen tb ?_ | refine sFd tb ?_ | refine sBd tb ?_ | refine sBa tb ?_); try (first | refine gl tb ?_ | refine gg tb ?_ | refine ll tb ?_ | refine lg tb ?_))
    first | refine G.condD rfl (fun hc => ?_) (fun hc => ?_) | refine G.condN rfl (fun hc => ?_) (fun hc => ?_) | refine G.cond rfl (fun hc => ?_) (fun hc => ?_)
    · have hr : ¬ rightR p.1 = true := by
        intro h; rw [h] at hc; cases hc
      rw [relF, if_neg hr] at he
      try (first | refine gl tb ?_ | refine gg tb ?_ | refine ll tb ?_ | refine lg tb ?_); repeat ((first | refine G.condT rfl ?_ | refine G.condF rfl ?_ | refine sFa tb ?_ | refine sLd tb ?_ | refine sLa tb ?_ | refine sLen tb ?_ | refine sFd tb ?_ | refine sBd tb ?_ | refine sBa tb ?_); try (first | refine gl tb ?_ | refine gg tb ?_ | refine ll tb ?_ | refine lg tb ?_))
      refine sAd tb ?_
      try (first | refine gl tb ?_ | refine gg tb ?_ | refine ll tb ?_ | refine lg tb ?_); repeat ((first | refine G.condT rfl ?_ | refine G.condF rfl ?_ | refine sFa tb ?_ | refine sLd tb ?_ | refine sLa tb ?_ | refine sLen tb ?_ | refine sFd tb ?_ | refine sBd tb ?_ | refine sBa tb ?_); try (first | refine gl tb ?_ | refine gg tb ?_ | refine ll tb ?_ | refine lg tb ?_))
      exact G.lp (x := (k, s, cur)) (k + 1, s, cur) (by repeat (first | exact Sub.nil _ | refine Sub.cons rfl ?_)) ⟨hx04, by simp only; omega, hs.to ((hx3.trans hx4)), hic, he⟩ (by simp only; omega)
    · have hr : rightR p.1 = true := by
        rcases h : rightR p.1 with _ | _
        · rw [h] at hc; cases hc
        · rfl
      rw [relF, if_pos hr] at he
      obtain ⟨hret, hinv⟩ := hok W4 s cur hr hx04 hic (hs.to (hx3.trans hx4))
      try (first | refine gl tb ?_ | refine gg tb ?_ | refine ll tb ?_ | refine lg tb ?_); repeat ((first | refine G.condT rfl ?_ | refine G.condF rfl ?_ | refine sFa tb ?_ | refine sLd tb ?_ | refine sLa tb ?_ | refine sLen tb ?_ | refine sFd tb ?_ | refine sBd tb ?_ | refine sBa tb ?_); try (first | refine gl tb ?_ | refine gg tb ?_ | refine ll tb ?_ | refine lg tb ?_))
      refine sCall c26 (hret) ?_
      rintro _ W5 ⟨u, rfl, hu5, hx5⟩
      have hx05 := hx04.trans hx5
      try (first | refine gl tb ?_ | refine gg tb ?_ | refine ll tb ?_ | refine lg tb ?_); repeat ((first | refine G.condT rfl ?_ | refine G.condF rfl ?_ | refine sFa tb ?_ | refine sLd tb ?_ | refine sLa tb ?_ | refine sLen tb ?_ | refine sFd tb ?_ | refine sBd tb ?_ | refine sBa tb ?_); try (first | refine gl tb ?_ | refine gg tb ?_ | refine ll tb ?_ | refine lg tb ?_))
      first | refine G.condD rfl (fun hc => ?_) (fun hc => ?_) | refine G.condN rfl (fun hc => ?_) (fun hc => ?_) | refine G.cond rfl (fun hc => ?_) (fun hc => ?_)
      · have h2 : ¬ (F p.1 cur).2 = true := by
          intro h; rw [h] at hc; cases hc
        rw [if_neg h2] at he
        have h3 : (F p.1 cur).2 = false := by simpa using h2
        try (first | refine gl tb ?_ | refine gg tb ?_ | refine ll tb ?_ | refine lg tb ?_); repeat ((first | refine G.condT rfl ?_ | refine G.condF rfl ?_ | refine sFa tb ?_ | refine sLd tb ?_ | refine sLa tb ?_ | refine sLen tb ?_ | refine sFd tb ?_ | refine sBd tb ?_ | refine sBa tb ?_); try (first | refine gl tb ?_ | refine gg tb ?_ | refine ll tb ?_ | refine lg tb ?_))
        refine G.ret2 rfl rfl rfl rfl rfl ?_
        rw [he]
        exact ⟨_, by rw [h3], Sli.nil _ _, hx05⟩
      · have h2 : (F p.1 cur).2 = true := by
          rcases h : (F p.1 cur).2 with _ | _
          · rw [h] at hc; cases hc
          · rfl
        rw [if_pos h2] at he
        try (first | refine gl tb ?_ | refine gg tb ?_ | refine ll tb ?_ | refine lg tb ?_); repeat ((first | refine G.condT rfl ?_ | refine G.condF rfl ?_ | refine sFa tb ?_ | refine sLd tb ?_ | refine sLa tb ?_ | refine sLen tb ?_ | refine sFd tb ?_ | refine sBd tb ?_ | refine sBa tb ?_); try (first | refine gl tb ?_ | refine gg tb ?_ | refine ll tb ?_ | refine lg tb ?_))
        refine sAd tb ?_
        try (first | refine gl tb ?_ | refine gg tb ?_ | refine ll tb ?_ | refine lg tb ?_); repeat ((first | refine G.condT rfl ?_ | refine G.condF rfl ?_ | refine sFa tb ?_ | refine sLd tb ?_ | refine sLa tb ?_ | refine sLen tb ?_ | refine sFd tb ?_ | refine sBd tb ?_ | refine sBa tb ?_); try (first | refine gl tb ?_ | refine gg tb ?_ | refine ll tb ?_ | refine lg tb ?_))
        refine G.lp (x := (k, s, cur)) (k + 1, u, (F p.1 cur).1) ?_ ⟨hx05, by simp only; omega, hu5, hinv h2, he⟩ (by simp only; omega)
        rw [h2]
        exact (by repeat (first | exact Sub.nil _ | refine Sub.cons rfl ?_))
  · obtain rfl : k = rs.length := by omega
    rw [List.drop_length] at he
    try (first | refine gl tb ?_ | refine gg tb ?_ | refine ll tb ?_ | refine lg tb ?_); repeat ((first | refine G.condT rfl ?_ | refine G.condF rfl ?_ | refine sFa tb ?_ | refine sLd tb ?_ | refine sLa tb ?_ | refine sLen tb ?_ | refine sFd tb ?_ | refine sBd tb ?_ | refine sBa tb ?_); try (first | refine gl tb ?_ | refine gg tb ?_ | refine ll tb ?_ | refine lg tb ?_))
    refine G.ret2 rfl rfl rfl rfl rfl ?_
    rw [he]
    exact ⟨_, rfl, hs, hx⟩
end Go.Proofs.YtmkckngecjpklaaDoor
end
section
namespace Go.Sc
/-- how far a time is behind the last one of a target -/
def back (t o i : Int) : Int := (t - o) % i
theorem back_eq {t o i : Int} (hi : 0 < i) (h0 : 0 ≤ o) (h1 : o < i) : back t o i = if t % i - o < 0 then t % i - o + i else t % i - o := by
  have e1 := Int.emod_nonneg t (show i ≠ 0 by omega)
  have e2 := Int.emod_lt_of_pos t hi
  have e3 : (t - o) % i = (t % i - o) % i := by rw [Int.sub_emod t o i, Int.sub_emod (t % i) o i, Int.emod_emod]
  unfold back
  rw [e3]
  split
  · rw [← Int.add_emod_right, Int.emod_eq_of_lt (by omega) (by omega)]
  · rw [Int.emod_eq_of_lt (by omega) (by omega)]
theorem back_bd {t o i : Int} (hi : 0 < i) : 0 ≤ back t o i ∧ back t o i < i := ⟨Int.emod_nonneg _ (by omega), Int.emod_lt_of_pos _ hi⟩
/-- P12.4: when a target is due last in a time -/
def due (o i frm to_ : Int) : Option Int :=
  if i < 1 ∨ o < 0 ∨ i ≤ o ∨ to_ ≤ frm then none
  else if to_ < -9223372036854775808 + back to_ o i ∨ to_ - back to_ o i ≤ frm then none else some (to_ - back to_ o i)
theorem due_one {o i frm : Int} (hi : 1 ≤ i) (h0 : 0 ≤ o) (h1 : o < i) (hb : -1152921504606846976 ≤ frm) (hi2 : i ≤ 1152921504606846976) : ∃ a, due o i frm (frm + i) = some a ∧ frm < a ∧ a ≤ frm + i ∧ due o i a (a + i - 1) = none := by
  have hbd := back_bd (t := frm + i) (o := o) (i := i) (by omega)
  refine ⟨frm + i - back (frm + i) o i, ?_, by omega, by omega, ?_⟩
  · unfold due
    rw [if_neg (by omega), if_neg (by omega)]
  · generalize hm : back (frm + i) o i = m at hbd
    have hz : (frm + i - m - o) % i = 0 := by
      have h := Int.emod_emod_of_dvd (frm + i - o) (Int.dvd_refl i)
      have e : frm + i - m - o = (frm + i - o) - (frm + i - o) % i := by rw [← hm]; unfold back; omega
      rw [e]
      exact Int.emod_eq_zero_of_dvd (Int.dvd_self_sub_emod)
    generalize ha : frm + i - m = a at hz
    unfold due
    by_cases hi1 : i = 1
    · subst hi1
      rw [if_pos (by omega)]
    · rw [if_neg (by omega)]
      have hb : back (a + i - 1) o i = i - 1 := by
        unfold back
        have e : a + i - 1 - o = (a - o) + (i - 1) := by omega
        rw [e, Int.add_emod, hz, Int.zero_add, Int.emod_emod, Int.emod_eq_of_lt (by omega) (by omega)]
      rw [hb, if_pos (by omega)]
end Go.Sc
end
section
open Go Go.Vg Go.RowKit Go.Proofs Go.Proofs.YtmkckngecjpklaaDoor
namespace Go.Proofs.YtmkckngecjpklaaDoor
set_option linter.unusedSimpArgs false

abbrev I64 (n : Int) : Prop := -9223372036854775808 ≤ n ∧ n ≤ 9223372036854775807
theorem tmod_or {t i : Int} (hi : 0 < i) : t.tmod i = t % i ∨ t.tmod i = t % i - i := by
  have e := Int.tmod_eq_emod (a := t) (b := i)
  split at e
  · left; simpa using e
  · right; omega
theorem tmod_eq {t i : Int} (hi : 0 < i) : (if t.tmod i < 0 then t.tmod i + i else t.tmod i) = t % i := by
  have h1 := Int.emod_nonneg t (show i ≠ 0 by omega)
  have h2 := Int.emod_lt_of_pos t hi
  have h3 := tmod_or (t := t) hi
  split <;> omega
theorem tmod_bd {t i : Int} (hi : 0 < i) : -i ≤ t.tmod i ∧ t.tmod i < i := by
  have h1 := Int.emod_nonneg t (show i ≠ 0 by omega)
  have h2 := Int.emod_lt_of_pos t hi
  have h3 := tmod_or (t := t) hi
  omega
theorem below_ok (t o i : Int) (w : World) (hi : 1 ≤ i) (h0 : 0 ≤ o) (h1 : o < i) (hI : i ≤ 9223372036854775807) :
    Ret Tryd.prog 21 ⟨[.int .i64 t, .int .i64 o, .int .i64 i]⟩ w fun r w' => r = .int .i64 (Sc.back t o i) ∧ w' = w := by
  have hbd := tmod_bd (t := t) (i := i) (by omega)
  have heq := tmod_eq (t := t) (i := i) (by omega)
  have hbk := Sc.back_eq (t := t) (o := o) (i := i) (by omega) h0 h1
  have he := Int.emod_nonneg t (show i ≠ 0 by omega)
  have he2 := Int.emod_lt_of_pos t (show 0 < i by omega)
  refine ret_of_G Tryd.func21 rfl Tryd.ntmps21 rfl ?_
  simp only [argEnv]
  try (first | refine gl tb ?_ | refine gg tb ?_ | refine ll tb ?_ | refine lg tb ?_); repeat ((first | refine G.condT rfl ?_ | refine G.condF rfl ?_ | refine sFa tb ?_ | refine sLd tb ?_ | refine sLa tb ?_ | refine sLen tb ?_ | refine sFd tb ?_ | refine sBd tb ?_ | refine sBa tb ?_); try (first | refine gl tb ?_ | refine gg tb ?_ | refine ll tb ?_ | refine lg tb ?_))
  refine sRem rfl ?_
  generalize t.tmod i = m at hbd heq
  generalize t % i = n at hbk he he2 heq
  try (first | refine gl tb ?_ | refine gg tb ?_ | refine ll tb ?_ | refine lg tb ?_); repeat ((first | refine G.condT rfl ?_ | refine G.condF rfl ?_ | refine sFa tb ?_ | refine sLd tb ?_ | refine sLa tb ?_ | refine sLen tb ?_ | refine sFd tb ?_ | refine sBd tb ?_ | refine sBa tb ?_); try (first | refine gl tb ?_ | refine gg tb ?_ | refine ll tb ?_ | refine lg tb ?_))
  refine (G.join (fun _ : Unit => [(1, none, .int .i64 o), (2, none, .int .i64 i), (7, none, .int .i64 n)]) (fun _ W => W = w) (fun _ W hW => ?_) ?_)
  · subst hW
    try (first | refine gl tb ?_ | refine gg tb ?_ | refine ll tb ?_ | refine lg tb ?_); repeat ((first | refine G.condT rfl ?_ | refine G.condF rfl ?_ | refine sFa tb ?_ | refine sLd tb ?_ | refine sLa tb ?_ | refine sLen tb ?_ | refine sFd tb ?_ | refine sBd tb ?_ | refine sBa tb ?_); try (first | refine gl tb ?_ | refine gg tb ?_ | refine ll tb ?_ | refine lg tb ?_))
    refine sAd tb (r := n - o) ?_
    try (first | refine gl tb ?_ | refine gg tb ?_ | refine ll tb ?_ | refine lg tb ?_); repeat ((first | refine G.condT rfl ?_ | refine G.condF rfl ?_ | refine sFa tb ?_ | refine sLd tb ?_ | refine sLa tb ?_ | refine sLen tb ?_ | refine sFd tb ?_ | refine sBd tb ?_ | refine sBa tb ?_); try (first | refine gl tb ?_ | refine gg tb ?_ | refine ll tb ?_ | refine lg tb ?_))
    first | refine G.condD rfl (fun hc => ?_) (fun hc => ?_) | refine G.condN rfl (fun hc => ?_) (fun hc => ?_) | refine G.cond rfl (fun hc => ?_) (fun hc => ?_)
    · try (first | refine gl tb ?_ | refine gg tb ?_ | refine ll tb ?_ | refine lg tb ?_); repeat ((first | refine G.condT rfl ?_ | refine G.condF rfl ?_ | refine sFa tb ?_ | refine sLd tb ?_ | refine sLa tb ?_ | refine sLen tb ?_ | refine sFd tb ?_ | refine sBd tb ?_ | refine sBa tb ?_); try (first | refine gl tb ?_ | refine gg tb ?_ | refine ll tb ?_ | refine lg tb ?_))
      refine sAd tb (r := n - o + i) ?_
      try (first | refine gl tb ?_ | refine gg tb ?_ | refine ll tb ?_ | refine lg tb ?_); repeat ((first | refine G.condT rfl ?_ | refine G.condF rfl ?_ | refine sFa tb ?_ | refine sLd tb ?_ | refine sLa tb ?_ | refine sLen tb ?_ | refine sFd tb ?_ | refine sBd tb ?_ | refine sBa tb ?_); try (first | refine gl tb ?_ | refine gg tb ?_ | refine ll tb ?_ | refine lg tb ?_))
      refine G.ret1 rfl rfl rfl rfl ?_
      exact ⟨by rw [hbk, if_pos (by omega)], rfl⟩
    · try (first | refine gl tb ?_ | refine gg tb ?_ | refine ll tb ?_ | refine lg tb ?_); repeat ((first | refine G.condT rfl ?_ | refine G.condF rfl ?_ | refine sFa tb ?_ | refine sLd tb ?_ | refine sLa tb ?_ | refine sLen tb ?_ | refine sFd tb ?_ | refine sBd tb ?_ | refine sBa tb ?_); try (first | refine gl tb ?_ | refine gg tb ?_ | refine ll tb ?_ | refine lg tb ?_))
      refine G.ret1 rfl rfl rfl rfl ?_
      exact ⟨by rw [hbk, if_neg (by omega)], rfl⟩
  · first | refine G.condD rfl (fun hc => ?_) (fun hc => ?_) | refine G.condN rfl (fun hc => ?_) (fun hc => ?_) | refine G.cond rfl (fun hc => ?_) (fun hc => ?_)
    · try (first | refine gl tb ?_ | refine gg tb ?_ | refine ll tb ?_ | refine lg tb ?_); repeat ((first | refine G.condT rfl ?_ | refine G.condF rfl ?_ | refine sFa tb ?_ | refine sLd tb ?_ | refine sLa tb ?_ | refine sLen tb ?_ | refine sFd tb ?_ | refine sBd tb ?_ | refine sBa tb ?_); try (first | refine gl tb ?_ | refine gg tb ?_ | refine ll tb ?_ | refine lg tb ?_))
      refine sAd tb (r := n) ?_ (hp := by rw [if_pos hc] at heq; show IntKind.i64.wrap _ = _; rw [wrap_i64 (by omega) (by omega)]; omega)
      try (first | refine gl tb ?_ | refine gg tb ?_ | refine ll tb ?_ | refine lg tb ?_); repeat ((first | refine G.condT rfl ?_ | refine G.condF rfl ?_ | refine sFa tb ?_ | refine sLd tb ?_ | refine sLa tb ?_ | refine sLen tb ?_ | refine sFd tb ?_ | refine sBd tb ?_ | refine sBa tb ?_); try (first | refine gl tb ?_ | refine gg tb ?_ | refine ll tb ?_ | refine lg tb ?_))
      exact G.met () (by repeat (first | exact Sub.nil _ | refine Sub.cons rfl ?_)) rfl
    · rw [if_neg hc] at heq
      subst heq
      try (first | refine gl tb ?_ | refine gg tb ?_ | refine ll tb ?_ | refine lg tb ?_); repeat ((first | refine G.condT rfl ?_ | refine G.condF rfl ?_ | refine sFa tb ?_ | refine sLd tb ?_ | refine sLa tb ?_ | refine sLen tb ?_ | refine sFd tb ?_ | refine sBd tb ?_ | refine sBa tb ?_); try (first | refine gl tb ?_ | refine gg tb ?_ | refine ll tb ?_ | refine lg tb ?_))
      exact G.met () (by repeat (first | exact Sub.nil _ | refine Sub.cons rfl ?_)) rfl
/-- what is told of a time -/
def dueV (d : Option Int) : Value := .tuple ⟨[.int .i64 (d.getD 0), .bool d.isSome]⟩
/-- a target's cells -/
def tgC (a b c : Value) (o : Int) : List Value := [a, b, c, .int .i64 o]
set_option maxHeartbeats 1000000 in
theorem due_ok (a b c : Value) (o i frm to_ : Int) (w : World) (hi : I64 i) (ht : I64 to_) (hf : I64 frm) :
    Ret Tryd.prog 7 ⟨[.agg ⟨tgC a b c o⟩, .int .i64 i, .int .i64 frm, .int .i64 to_]⟩ w fun r w' => r = dueV (Sc.due o i frm to_) ∧ Ext w w' := by
  obtain ⟨hi1, hi2⟩ := hi
  obtain ⟨ht1, ht2⟩ := ht
  refine ret_of_G Tryd.func7 rfl Tryd.ntmps7 rfl ?_
  simp only [argEnv]
  try (first | refine gl tb ?_ | refine gg tb ?_ | refine ll tb ?_ | refine lg tb ?_); repeat ((first | refine G.condT rfl ?_ | refine G.condF rfl ?_ | refine sFa tb ?_ | refine sLd tb ?_ | refine sLa tb ?_ | refine sLen tb ?_ | refine sFd tb ?_ | refine sBd tb ?_ | refine sBa tb ?_); try (first | refine gl tb ?_ | refine gg tb ?_ | refine ll tb ?_ | refine lg tb ?_))
  refine sBox (us := tgC a b c o) (fun W1 hb1 hs1 hx1 => ?_)
  try (first | refine gl tb ?_ | refine gg tb ?_ | refine ll tb ?_ | refine lg tb ?_); repeat ((first | refine G.condT rfl ?_ | refine G.condF rfl ?_ | refine sFa tb ?_ | refine sLd tb ?_ | refine sLa tb ?_ | refine sLen tb ?_ | refine sFd tb ?_ | refine sBd tb ?_ | refine sBa tb ?_); try (first | refine gl tb ?_ | refine gg tb ?_ | refine ll tb ?_ | refine lg tb ?_))
  first | refine G.condD rfl (fun hc => ?_) (fun hc => ?_) | refine G.condN rfl (fun hc => ?_) (fun hc => ?_) | refine G.cond rfl (fun hc => ?_) (fun hc => ?_)
  · have hn : Sc.due o i frm to_ = none := by
      unfold Sc.due
      simp only [Bool.or_eq_true, decide_eq_true_eq] at hc
      rw [if_pos (by omega)]
    try (first | refine gl tb ?_ | refine gg tb ?_ | refine ll tb ?_ | refine lg tb ?_); repeat ((first | refine G.condT rfl ?_ | refine G.condF rfl ?_ | refine sFa tb ?_ | refine sLd tb ?_ | refine sLa tb ?_ | refine sLen tb ?_ | refine sFd tb ?_ | refine sBd tb ?_ | refine sBa tb ?_); try (first | refine gl tb ?_ | refine gg tb ?_ | refine ll tb ?_ | refine lg tb ?_))
    refine G.ret2 rfl rfl rfl rfl rfl ?_
    exact ⟨by rw [hn]; rfl, hx1⟩
  simp only [Bool.or_eq_false_iff, decide_eq_false_iff_not] at hc
  obtain ⟨⟨⟨c1, c2⟩, c3⟩, c4⟩ := hc
  have hbd := Sc.back_bd (t := to_) (o := o) (i := i) (by omega)
  have hdue : Sc.due o i frm to_ = if to_ < -9223372036854775808 + Sc.back to_ o i ∨ to_ - Sc.back to_ o i ≤ frm then none else some (to_ - Sc.back to_ o i) := by
    unfold Sc.due
    rw [if_neg (by omega)]
  try (first | refine gl tb ?_ | refine gg tb ?_ | refine ll tb ?_ | refine lg tb ?_); repeat ((first | refine G.condT rfl ?_ | refine G.condF rfl ?_ | refine sFa tb ?_ | refine sLd tb ?_ | refine sLa tb ?_ | refine sLen tb ?_ | refine sFd tb ?_ | refine sBd tb ?_ | refine sBa tb ?_); try (first | refine gl tb ?_ | refine gg tb ?_ | refine ll tb ?_ | refine lg tb ?_))
  refine sCall c21 (below_ok to_ o i W1 (by omega) (by omega) (by omega) hi2) ?_
  rintro _ W2 ⟨rfl, rfl⟩
  generalize Sc.back to_ o i = m at hbd hdue
  try (first | refine gl tb ?_ | refine gg tb ?_ | refine ll tb ?_ | refine lg tb ?_); repeat ((first | refine G.condT rfl ?_ | refine G.condF rfl ?_ | refine sFa tb ?_ | refine sLd tb ?_ | refine sLa tb ?_ | refine sLen tb ?_ | refine sFd tb ?_ | refine sBd tb ?_ | refine sBa tb ?_); try (first | refine gl tb ?_ | refine gg tb ?_ | refine ll tb ?_ | refine lg tb ?_))
  refine sAd tb (r := -9223372036854775808 + m) ?_
  try (first | refine gl tb ?_ | refine gg tb ?_ | refine ll tb ?_ | refine lg tb ?_); repeat ((first | refine G.condT rfl ?_ | refine G.condF rfl ?_ | refine sFa tb ?_ | refine sLd tb ?_ | refine sLa tb ?_ | refine sLen tb ?_ | refine sFd tb ?_ | refine sBd tb ?_ | refine sBa tb ?_); try (first | refine gl tb ?_ | refine gg tb ?_ | refine ll tb ?_ | refine lg tb ?_))
  refine sAd tb (r := IntKind.i64.wrap (to_ - m)) ?_ (hp := rfl)
  try (first | refine gl tb ?_ | refine gg tb ?_ | refine ll tb ?_ | refine lg tb ?_); repeat ((first | refine G.condT rfl ?_ | refine G.condF rfl ?_ | refine sFa tb ?_ | refine sLd tb ?_ | refine sLa tb ?_ | refine sLen tb ?_ | refine sFd tb ?_ | refine sBd tb ?_ | refine sBa tb ?_); try (first | refine gl tb ?_ | refine gg tb ?_ | refine ll tb ?_ | refine lg tb ?_))
  first | refine G.condD rfl (fun hc => ?_) (fun hc => ?_) | refine G.condN rfl (fun hc => ?_) (fun hc => ?_) | refine G.cond rfl (fun hc => ?_) (fun hc => ?_)
  · have hn : Sc.due o i frm to_ = none := by
      rw [hdue]
      simp only [Bool.or_eq_true, decide_eq_true_eq] at hc
      rw [if_pos]
      rcases hc with h | h
      · exact .inl h
      · by_cases h2 : to_ < -9223372036854775808 + m
        · exact .inl h2
        · rw [wrap_i64 (by omega) (by omega)] at h
          exact .inr h
    try (first | refine gl tb ?_ | refine gg tb ?_ | refine ll tb ?_ | refine lg tb ?_); repeat ((first | refine G.condT rfl ?_ | refine G.condF rfl ?_ | refine sFa tb ?_ | refine sLd tb ?_ | refine sLa tb ?_ | refine sLen tb ?_ | refine sFd tb ?_ | refine sBd tb ?_ | refine sBa tb ?_); try (first | refine gl tb ?_ | refine gg tb ?_ | refine ll tb ?_ | refine lg tb ?_))
    refine G.ret2 rfl rfl rfl rfl rfl ?_
    exact ⟨by rw [hn]; rfl, hx1⟩
  · simp only [Bool.or_eq_false_iff, decide_eq_false_iff_not] at hc
    have hw : IntKind.i64.wrap (to_ - m) = to_ - m := wrap_i64 (by omega) (by omega)
    rw [hw] at hc
    rw [hw]
    try (first | refine gl tb ?_ | refine gg tb ?_ | refine ll tb ?_ | refine lg tb ?_); repeat ((first | refine G.condT rfl ?_ | refine G.condF rfl ?_ | refine sFa tb ?_ | refine sLd tb ?_ | refine sLa tb ?_ | refine sLen tb ?_ | refine sFd tb ?_ | refine sBd tb ?_ | refine sBa tb ?_); try (first | refine gl tb ?_ | refine gg tb ?_ | refine ll tb ?_ | refine lg tb ?_))
    refine sAd tb (r := to_ - m) ?_
    try (first | refine gl tb ?_ | refine gg tb ?_ | refine ll tb ?_ | refine lg tb ?_); repeat ((first | refine G.condT rfl ?_ | refine G.condF rfl ?_ | refine sFa tb ?_ | refine sLd tb ?_ | refine sLa tb ?_ | refine sLen tb ?_ | refine sFd tb ?_ | refine sBd tb ?_ | refine sBa tb ?_); try (first | refine gl tb ?_ | refine gg tb ?_ | refine ll tb ?_ | refine lg tb ?_))
    refine G.ret2 rfl rfl rfl rfl rfl ?_
    exact ⟨by rw [hdue, if_neg (by omega)]; rfl, hx1⟩
set_option maxHeartbeats 1000000 in
theorem last_okR (o i frm to_ : Int) (w : World) (hi : I64 i) (ht : I64 to_) :
    Ret Tryd.prog 22 ⟨[.int .i64 o, .int .i64 i, .int .i64 frm, .int .i64 to_]⟩ w fun r w' => r = dueV (Sc.due o i frm to_) ∧ w' = w := by
  obtain ⟨hi1, hi2⟩ := hi
  obtain ⟨ht1, ht2⟩ := ht
  refine ret_of_G Tryd.func22 rfl Tryd.ntmps22 rfl ?_
  simp only [argEnv]
  try (first | refine gl tb ?_ | refine gg tb ?_ | refine ll tb ?_ | refine lg tb ?_); repeat ((first | refine G.condT rfl ?_ | refine G.condF rfl ?_ | refine sFa tb ?_ | refine sLd tb ?_ | refine sLa tb ?_ | refine sLen tb ?_ | refine sFd tb ?_ | refine sBd tb ?_ | refine sBa tb ?_); try (first | refine gl tb ?_ | refine gg tb ?_ | refine ll tb ?_ | refine lg tb ?_))
  first | refine G.condD rfl (fun hc => ?_) (fun hc => ?_) | refine G.condN rfl (fun hc => ?_) (fun hc => ?_) | refine G.cond rfl (fun hc => ?_) (fun hc => ?_)
  · have hn : Sc.due o i frm to_ = none := by
      unfold Sc.due
      simp only [Bool.or_eq_true, decide_eq_true_eq] at hc
      rw [if_pos (by omega)]
    try (first | refine gl tb ?_ | refine gg tb ?_ | refine ll tb ?_ | refine lg tb ?_); repeat ((first | refine G.condT rfl ?_ | refine G.condF rfl ?_ | refine sFa tb ?_ | refine sLd tb ?_ | refine sLa tb ?_ | refine sLen tb ?_ | refine sFd tb ?_ | refine sBd tb ?_ | refine sBa tb ?_); try (first | refine gl tb ?_ | refine gg tb ?_ | refine ll tb ?_ | refine lg tb ?_))
    refine G.ret2 rfl rfl rfl rfl rfl ?_
    exact ⟨by rw [hn]; rfl, rfl⟩
  simp only [Bool.or_eq_false_iff, decide_eq_false_iff_not] at hc
  obtain ⟨⟨⟨c1, c2⟩, c3⟩, c4⟩ := hc
  have hbd := tmod_bd (t := to_) (i := i) (by omega)
  have heq := tmod_eq (t := to_) (i := i) (by omega)
  have hbk := Sc.back_eq (t := to_) (o := o) (i := i) (by omega) (by omega) (by omega)
  have he := Int.emod_nonneg to_ (show i ≠ 0 by omega)
  have he2 := Int.emod_lt_of_pos to_ (show 0 < i by omega)
  have hbb := Sc.back_bd (t := to_) (o := o) (i := i) (by omega)
  have hdue : Sc.due o i frm to_ = if to_ < -9223372036854775808 + Sc.back to_ o i ∨ to_ - Sc.back to_ o i ≤ frm then none else some (to_ - Sc.back to_ o i) := by
    unfold Sc.due
    rw [if_neg (by omega)]
  try (first | refine gl tb ?_ | refine gg tb ?_ | refine ll tb ?_ | refine lg tb ?_); repeat ((first | refine G.condT rfl ?_ | refine G.condF rfl ?_ | refine sFa tb ?_ | refine sLd tb ?_ | refine sLa tb ?_ | refine sLen tb ?_ | refine sFd tb ?_ | refine sBd tb ?_ | refine sBa tb ?_); try (first | refine gl tb ?_ | refine gg tb ?_ | refine ll tb ?_ | refine lg tb ?_))
  refine sRem rfl ?_
  generalize to_.tmod i = m at hbd heq
  generalize to_ % i = n at hbk he he2 heq
  generalize Sc.back to_ o i = b at hbk hbb hdue
  try (first | refine gl tb ?_ | refine gg tb ?_ | refine ll tb ?_ | refine lg tb ?_); repeat ((first | refine G.condT rfl ?_ | refine G.condF rfl ?_ | refine sFa tb ?_ | refine sLd tb ?_ | refine sLa tb ?_ | refine sLen tb ?_ | refine sFd tb ?_ | refine sBd tb ?_ | refine sBa tb ?_); try (first | refine gl tb ?_ | refine gg tb ?_ | refine ll tb ?_ | refine lg tb ?_))
  refine (G.join (fun _ : Unit => [(0, none, .int .i64 o), (1, none, .int .i64 i), (2, none, .int .i64 frm), (3, none, .int .i64 to_), (10, none, .int .i64 n)]) (fun _ W => W = w) (fun _ W hW => ?_) ?_)
  · subst hW
    try (first | refine gl tb ?_ | refine gg tb ?_ | refine ll tb ?_ | refine lg tb ?_); repeat ((first | refine G.condT rfl ?_ | refine G.condF rfl ?_ | refine sFa tb ?_ | refine sLd tb ?_ | refine sLa tb ?_ | refine sLen tb ?_ | refine sFd tb ?_ | refine sBd tb ?_ | refine sBa tb ?_); try (first | refine gl tb ?_ | refine gg tb ?_ | refine ll tb ?_ | refine lg tb ?_))
    refine sAd tb (r := n - o) ?_
    try (first | refine gl tb ?_ | refine gg tb ?_ | refine ll tb ?_ | refine lg tb ?_); repeat ((first | refine G.condT rfl ?_ | refine G.condF rfl ?_ | refine sFa tb ?_ | refine sLd tb ?_ | refine sLa tb ?_ | refine sLen tb ?_ | refine sFd tb ?_ | refine sBd tb ?_ | refine sBa tb ?_); try (first | refine gl tb ?_ | refine gg tb ?_ | refine ll tb ?_ | refine lg tb ?_))
    refine (G.join (fun _ : Unit => [(2, none, .int .i64 frm), (3, none, .int .i64 to_), (11, none, .int .i64 b)]) (fun _ W' => W' = W) (fun _ W' hW => ?_) ?_)
    · subst hW
      try (first | refine gl tb ?_ | refine gg tb ?_ | refine ll tb ?_ | refine lg tb ?_); repeat ((first | refine G.condT rfl ?_ | refine G.condF rfl ?_ | refine sFa tb ?_ | refine sLd tb ?_ | refine sLa tb ?_ | refine sLen tb ?_ | refine sFd tb ?_ | refine sBd tb ?_ | refine sBa tb ?_); try (first | refine gl tb ?_ | refine gg tb ?_ | refine ll tb ?_ | refine lg tb ?_))
      refine sAd tb (r := -9223372036854775808 + b) ?_
      try (first | refine gl tb ?_ | refine gg tb ?_ | refine ll tb ?_ | refine lg tb ?_); repeat ((first | refine G.condT rfl ?_ | refine G.condF rfl ?_ | refine sFa tb ?_ | refine sLd tb ?_ | refine sLa tb ?_ | refine sLen tb ?_ | refine sFd tb ?_ | refine sBd tb ?_ | refine sBa tb ?_); try (first | refine gl tb ?_ | refine gg tb ?_ | refine ll tb ?_ | refine lg tb ?_))
      refine sAd tb (r := IntKind.i64.wrap (to_ - b)) ?_ (hp := rfl)
      try (first | refine gl tb ?_ | refine gg tb ?_ | refine ll tb ?_ | refine lg tb ?_); repeat ((first | refine G.condT rfl ?_ | refine G.condF rfl ?_ | refine sFa tb ?_ | refine sLd tb ?_ | refine sLa tb ?_ | refine sLen tb ?_ | refine sFd tb ?_ | refine sBd tb ?_ | refine sBa tb ?_); try (first | refine gl tb ?_ | refine gg tb ?_ | refine ll tb ?_ | refine lg tb ?_))
      first | refine G.condD rfl (fun hc => ?_) (fun hc => ?_) | refine G.condN rfl (fun hc => ?_) (fun hc => ?_) | refine G.cond rfl (fun hc => ?_) (fun hc => ?_)
      · have hn : Sc.due o i frm to_ = none := by
          rw [hdue]
          simp only [Bool.or_eq_true, decide_eq_true_eq] at hc
          rw [if_pos]
          rcases hc with h | h
          · exact .inl h
          · by_cases h2 : to_ < -9223372036854775808 + b
            · exact .inl h2
            · rw [wrap_i64 (by omega) (by omega)] at h
              exact .inr h
        try (first | refine gl tb ?_ | refine gg tb ?_ | refine ll tb ?_ | refine lg tb ?_); repeat ((first | refine G.condT rfl ?_ | refine G.condF rfl ?_ | refine sFa tb ?_ | refine sLd tb ?_ | refine sLa tb ?_ | refine sLen tb ?_ | refine sFd tb ?_ | refine sBd tb ?_ | refine sBa tb ?_); try (first | refine gl tb ?_ | refine gg tb ?_ | refine ll tb ?_ | refine lg tb ?_))
        refine G.ret2 rfl rfl rfl rfl rfl ?_
        exact ⟨by rw [hn]; rfl, rfl⟩
      · simp only [Bool.or_eq_false_iff, decide_eq_false_iff_not] at hc
        have hw : IntKind.i64.wrap (to_ - b) = to_ - b := wrap_i64 (by omega) (by omega)
        rw [hw] at hc
        rw [hw]
        try (first | refine gl tb ?_ | refine gg tb ?_ | refine ll tb ?_ | refine lg tb ?_); repeat ((first | refine G.condT rfl ?_ | refine G.condF rfl ?_ | refine sFa tb ?_ | refine sLd tb ?_ | refine sLa tb ?_ | refine sLen tb ?_ | refine sFd tb ?_ | refine sBd tb ?_ | refine sBa tb ?_); try (first | refine gl tb ?_ | refine gg tb ?_ | refine ll tb ?_ | refine lg tb ?_))
        refine sAd tb (r := to_ - b) ?_
        try (first | refine gl tb ?_ | refine gg tb ?_ | refine ll tb ?_ | refine lg tb ?_); repeat ((first | refine G.condT rfl ?_ | refine G.condF rfl ?_ | refine sFa tb ?_ | refine sLd tb ?_ | refine sLa tb ?_ | refine sLen tb ?_ | refine sFd tb ?_ | refine sBd tb ?_ | refine sBa tb ?_); try (first | refine gl tb ?_ | refine gg tb ?_ | refine ll tb ?_ | refine lg tb ?_))
        refine G.ret2 rfl rfl rfl rfl rfl ?_
        exact ⟨by rw [hdue, if_neg (by omega)]; rfl, rfl⟩
    · first | refine G.condD rfl (fun hc => ?_) (fun hc => ?_) | refine G.condN rfl (fun hc => ?_) (fun hc => ?_) | refine G.cond rfl (fun hc => ?_) (fun hc => ?_)
      · rw [if_pos hc] at hbk
        subst hbk
        try (first | refine gl tb ?_ | refine gg tb ?_ | refine ll tb ?_ | refine lg tb ?_); repeat ((first | refine G.condT rfl ?_ | refine G.condF rfl ?_ | refine sFa tb ?_ | refine sLd tb ?_ | refine sLa tb ?_ | refine sLen tb ?_ | refine sFd tb ?_ | refine sBd tb ?_ | refine sBa tb ?_); try (first | refine gl tb ?_ | refine gg tb ?_ | refine ll tb ?_ | refine lg tb ?_))
        refine sAd tb (r := n - o + i) ?_
        try (first | refine gl tb ?_ | refine gg tb ?_ | refine ll tb ?_ | refine lg tb ?_); repeat ((first | refine G.condT rfl ?_ | refine G.condF rfl ?_ | refine sFa tb ?_ | refine sLd tb ?_ | refine sLa tb ?_ | refine sLen tb ?_ | refine sFd tb ?_ | refine sBd tb ?_ | refine sBa tb ?_); try (first | refine gl tb ?_ | refine gg tb ?_ | refine ll tb ?_ | refine lg tb ?_))
        exact G.met () (by repeat (first | exact Sub.nil _ | refine Sub.cons rfl ?_)) rfl
      · rw [if_neg hc] at hbk
        subst hbk
        try (first | refine gl tb ?_ | refine gg tb ?_ | refine ll tb ?_ | refine lg tb ?_); repeat ((first | refine G.condT rfl ?_ | refine G.condF rfl ?_ | refine sFa tb ?_ | refine sLd tb ?_ | refine sLa tb ?_ | refine sLen tb ?_ | refine sFd tb ?_ | refine sBd tb ?_ | refine sBa tb ?_); try (first | refine gl tb ?_ | refine gg tb ?_ | refine ll tb ?_ | refine lg tb ?_))
        exact G.met () (by repeat (first | exact Sub.nil _ | refine Sub.cons rfl ?_)) rfl
  · first | refine G.condD rfl (fun hc => ?_) (fun hc => ?_) | refine G.condN rfl (fun hc => ?_) (fun hc => ?_) | refine G.cond rfl (fun hc => ?_) (fun hc => ?_)
    · try (first | refine gl tb ?_ | refine gg tb ?_ | refine ll tb ?_ | refine lg tb ?_); repeat ((first | refine G.condT rfl ?_ | refine G.condF rfl ?_ | refine sFa tb ?_ | refine sLd tb ?_ | refine sLa tb ?_ | refine sLen tb ?_ | refine sFd tb ?_ | refine sBd tb ?_ | refine sBa tb ?_); try (first | refine gl tb ?_ | refine gg tb ?_ | refine ll tb ?_ | refine lg tb ?_))
      refine sAd tb (r := n) ?_ (hp := by rw [if_pos hc] at heq; show IntKind.i64.wrap _ = _; rw [wrap_i64 (by omega) (by omega)]; omega)
      try (first | refine gl tb ?_ | refine gg tb ?_ | refine ll tb ?_ | refine lg tb ?_); repeat ((first | refine G.condT rfl ?_ | refine G.condF rfl ?_ | refine sFa tb ?_ | refine sLd tb ?_ | refine sLa tb ?_ | refine sLen tb ?_ | refine sFd tb ?_ | refine sBd tb ?_ | refine sBa tb ?_); try (first | refine gl tb ?_ | refine gg tb ?_ | refine ll tb ?_ | refine lg tb ?_))
      exact G.met () (by repeat (first | exact Sub.nil _ | refine Sub.cons rfl ?_)) rfl
    · rw [if_neg hc] at heq
      subst heq
      try (first | refine gl tb ?_ | refine gg tb ?_ | refine ll tb ?_ | refine lg tb ?_); repeat ((first | refine G.condT rfl ?_ | refine G.condF rfl ?_ | refine sFa tb ?_ | refine sLd tb ?_ | refine sLa tb ?_ | refine sLen tb ?_ | refine sFd tb ?_ | refine sBd tb ?_ | refine sBa tb ?_); try (first | refine gl tb ?_ | refine gg tb ?_ | refine ll tb ?_ | refine lg tb ?_))
      exact G.met () (by repeat (first | exact Sub.nil _ | refine Sub.cons rfl ?_)) rfl
theorem refDue_ok (a b c : Value) (o i frm to_ : Int) (w : World) (hi : I64 i) (ht : I64 to_) :
    Ret Tryd.prog 8 ⟨[.agg ⟨tgC a b c o⟩, .int .i64 i, .int .i64 frm, .int .i64 to_]⟩ w fun r w' => r = dueV (Sc.due o i frm to_) ∧ Ext w w' := by
  refine ret_of_G Tryd.func8 rfl Tryd.ntmps8 rfl ?_
  simp only [argEnv]
  try (first | refine gl tb ?_ | refine gg tb ?_ | refine ll tb ?_ | refine lg tb ?_); repeat ((first | refine G.condT rfl ?_ | refine G.condF rfl ?_ | refine sFa tb ?_ | refine sLd tb ?_ | refine sLa tb ?_ | refine sLen tb ?_ | refine sFd tb ?_ | refine sBd tb ?_ | refine sBa tb ?_); try (first | refine gl tb ?_ | refine gg tb ?_ | refine ll tb ?_ | refine lg tb ?_))
  refine sBox (us := tgC a b c o) (fun W1 hb1 hs1 hx1 => ?_)
  try (first | refine gl tb ?_ | refine gg tb ?_ | refine ll tb ?_ | refine lg tb ?_); repeat ((first | refine G.condT rfl ?_ | refine G.condF rfl ?_ | refine sFa tb ?_ | refine sLd tb ?_ | refine sLa tb ?_ | refine sLen tb ?_ | refine sFd tb ?_ | refine sBd tb ?_ | refine sBa tb ?_); try (first | refine gl tb ?_ | refine gg tb ?_ | refine ll tb ?_ | refine lg tb ?_))
  refine sCall c22 (last_okR o i frm to_ W1 hi ht) ?_
  rintro _ W2 ⟨rfl, rfl⟩
  rcases Sc.due o i frm to_ with _ | x
  · simp only [dueV]
    try (first | refine gl tb ?_ | refine gg tb ?_ | refine ll tb ?_ | refine lg tb ?_); repeat ((first | refine G.condT rfl ?_ | refine G.condF rfl ?_ | refine sFa tb ?_ | refine sLd tb ?_ | refine sLa tb ?_ | refine sLen tb ?_ | refine sFd tb ?_ | refine sBd tb ?_ | refine sBa tb ?_); try (first | refine gl tb ?_ | refine gg tb ?_ | refine ll tb ?_ | refine lg tb ?_))
    refine G.ret2 rfl rfl rfl rfl rfl ?_
    exact ⟨rfl, hx1⟩
  · simp only [dueV]
    try (first | refine gl tb ?_ | refine gg tb ?_ | refine ll tb ?_ | refine lg tb ?_); repeat ((first | refine G.condT rfl ?_ | refine G.condF rfl ?_ | refine sFa tb ?_ | refine sLd tb ?_ | refine sLa tb ?_ | refine sLen tb ?_ | refine sFd tb ?_ | refine sBd tb ?_ | refine sBa tb ?_); try (first | refine gl tb ?_ | refine gg tb ?_ | refine ll tb ?_ | refine lg tb ?_))
    refine G.ret2 rfl rfl rfl rfl rfl ?_
    exact ⟨rfl, hx1⟩
end Go.Proofs.YtmkckngecjpklaaDoor
end
section
open Go Go.Vg Go.RowKit Go.Proofs Go.Proofs.YtmkckngecjpklaaDoor
namespace Go.Proofs.YtmkckngecjpklaaDoor.Lab
set_option linter.unusedSimpArgs false

theorem getD_drop (s : List UInt8) (i k : Nat) : (s.drop i).getD k 0 = s.getD (i + k) 0 := by simp [List.getD]
end Go.Proofs.YtmkckngecjpklaaDoor.Lab
end
section
open Go Go.Vg Go.RowKit Go.Proofs Go.Proofs.YtmkckngecjpklaaDoor
namespace Go.Proofs.YtmkckngecjpklaaDoor
set_option linter.unusedSimpArgs false
namespace Lab
def okAt (ls : List Lab) (i : Nat) : Bool := !(!fairB (labAt ls i) || decide ((labAt ls i).2 = []) || decide ((0 : Int) < i) && !Op.bytesLess (labAt ls (i - 1)).1 (labAt ls i).1)
def rightTo (ls : List Lab) (n : Nat) : Prop := ∀ i, i < n → okAt ls i = true
instance (ls : List Lab) (n : Nat) : Decidable (rightTo ls n) := by unfold rightTo; infer_instance
end Lab
end Go.Proofs.YtmkckngecjpklaaDoor
end
section
open Go Go.Vg Go.RowKit Go.Proofs Go.Proofs.YtmkckngecjpklaaDoor
namespace Go.Proofs.YtmkckngecjpklaaDoor
set_option linter.unusedSimpArgs false
namespace Lab
def clipL (x : Lab) : Lab := (x.1, x.2.take 60)
def setS (ls : List Lab) : List Lab := ((ls.take 10).map clipL).foldl setStep []
end Lab
end Go.Proofs.YtmkckngecjpklaaDoor
end
section
open Go Go.Vg Go.RowKit Go.Proofs Go.Proofs.YtmkckngecjpklaaDoor
namespace Go.Proofs.YtmkckngecjpklaaDoor
set_option linter.unusedSimpArgs false

def wx1 : List UInt8 := [40, 46, 42, 41, 45, 40, 46, 42, 41]
def tx1 : Rx.T := .seq [.grp 1 (.seq [.rep 0 (-1) false false (.set [] true)]), .set [(45, 45)] false, .grp 2 (.seq [.rep 0 (-1) false false (.set [] true)])]
theorem comp_wx1 : Rx.comp wx1 = .ok (tx1, 2) := by rfl
def rw0 : Rule := ⟨1, [[97], [98]], [45], wx1, 0, [99], [36, 50, 36, 49]⟩
def wl0 : List Lab.Lab := [([97], [49]), ([98], [50])]
def wl1 : List Lab.Lab := [([97], [49]), ([98], [50]), ([99], [50, 49])]
theorem rule_w0 : ruleR wl0 rw0 tx1 2 = (wl1, true) := by decide +kernel
theorem rule_w1 : ruleR wl1 rw0 tx1 2 = (wl1, true) := by decide +kernel
theorem right_w : rightR rw0 = true := by decide +kernel
theorem rw0_sz : RuleSz rw0 := ⟨by decide, fun s hs => by
  simp only [rw0, List.mem_cons, List.not_mem_nil, or_false] at hs
  rcases hs with rfl | rfl <;> (show _ ≤ _; decide), by decide, by decide, by decide, by decide⟩
theorem rw0_ok (w : World) (sv : Value) (hu : Srcs w rw0 sv) (hT : Tabs w) : RuleOk (fun r ls => ruleR ls r tx1 2) (fun ls => ls = wl0 ∨ ls = wl1) w (rw0, sv) := by
  intro W v cur _ hx hi hv
  refine ⟨rule_okR v sv cur rw0 tx1 2 W hv ?_ ?_ (hu.to hx) rw0_sz comp_wx1 (.inl rfl) ?_ (hT.to hx), fun _ => ?_⟩
  · rcases hi with rfl | rfl <;> (unfold Lab.sortedL; decide +kernel)
  · rcases hi with rfl | rfl <;> decide
  · rcases hi with rfl | rfl <;> decide +kernel
  · rcases hi with rfl | rfl
    · exact .inr (show (ruleR wl0 rw0 tx1 2).1 = wl1 by rw [rule_w0])
    · exact .inr (show (ruleR wl1 rw0 tx1 2).1 = wl1 by rw [rule_w1])
theorem due_w : Sc.due 3 10 0 20 = some 13 := by decide +kernel
set_option maxHeartbeats 1000000 in
theorem wakes_okS (w : World) (hT : Tabs w) : Ret Tryd.prog 9 ⟨[]⟩ w fun r w' => r = .bool true ∧ Ext w w' := by
  refine ret_of_G Tryd.func9 rfl Tryd.ntmps9 rfl ?_
  simp only [argEnv]
  try (first | refine gl tb ?_ | refine gg tb ?_ | refine ll tb ?_ | refine lg tb ?_); repeat ((first | refine G.condT rfl ?_ | refine G.condF rfl ?_ | refine sFa tb ?_ | refine sLd tb ?_ | refine sLa tb ?_ | refine sLen tb ?_ | refine sFd tb ?_ | refine sBd tb ?_ | refine sBa tb ?_); try (first | refine gl tb ?_ | refine gg tb ?_ | refine ll tb ?_ | refine lg tb ?_))
  refine sBs' tb (wl0.map Lab.labC) (fun u1 W1 ho1 hs1 hx1 => ?_) (hkl := Lab.labLen wl0)
  try (first | refine gl tb ?_ | refine gg tb ?_ | refine ll tb ?_ | refine lg tb ?_); repeat ((first | refine G.condT rfl ?_ | refine G.condF rfl ?_ | refine sFa tb ?_ | refine sLd tb ?_ | refine sLa tb ?_ | refine sLen tb ?_ | refine sFd tb ?_ | refine sBd tb ?_ | refine sBa tb ?_); try (first | refine gl tb ?_ | refine gg tb ?_ | refine ll tb ?_ | refine lg tb ?_))
  refine sBs' tb ([[97], [98]].map strC) (fun u2 W2 ho2 hs2 hx2 => ?_) (hkl := by simp [strC])
  obtain ⟨a2, c2, rfl, -⟩ := ho2.sli.len
  try (first | refine gl tb ?_ | refine gg tb ?_ | refine ll tb ?_ | refine lg tb ?_); repeat ((first | refine G.condT rfl ?_ | refine G.condF rfl ?_ | refine sFa tb ?_ | refine sLd tb ?_ | refine sLa tb ?_ | refine sLen tb ?_ | refine sFd tb ?_ | refine sBd tb ?_ | refine sBa tb ?_); try (first | refine gl tb ?_ | refine gg tb ?_ | refine ll tb ?_ | refine lg tb ?_))
  refine sBs' tb ([(rw0, Value.slice a2 2 c2)].map relC2) (fun u3 W3 ho3 hs3 hx3 => ?_) (hfill := by kernel_rfl) (hkl := by simp [relC2, relC])
  try (first | refine gl tb ?_ | refine gg tb ?_ | refine ll tb ?_ | refine lg tb ?_); repeat ((first | refine G.condT rfl ?_ | refine G.condF rfl ?_ | refine sFa tb ?_ | refine sLd tb ?_ | refine sLa tb ?_ | refine sLen tb ?_ | refine sFd tb ?_ | refine sBd tb ?_ | refine sBa tb ?_); try (first | refine gl tb ?_ | refine gg tb ?_ | refine ll tb ?_ | refine lg tb ?_))
  have hx13 := hx2.trans hx3
  have hx03 := hx1.trans hx13
  have hu2 : Srcs W3 rw0 (.slice a2 2 c2) := (ho2.to hx3).sli
  have hrel := relabel_ok (fun r ls => ruleR ls r tx1 2) (fun ls => ls = wl0 ∨ ls = wl1) u1 u3 wl0 [(rw0, .slice a2 2 c2)] W3 (ho1.to hx13).sli (.inl rfl) (by decide) ho3.sli (fun p hp => by
      simp only [List.mem_cons, List.not_mem_nil, or_false] at hp
      subst hp
      exact ⟨hu2, rw0_sz, rw0_ok W3 _ hu2 (hT.to hx03)⟩) (hT.to hx03)
  refine sCall c13 (hrel) ?_
  rintro _ W4 ⟨u, rfl, hl4, hx4⟩
  have e : relF (fun r ls => ruleR ls r tx1 2) ([(rw0, Value.slice a2 2 c2)].map (·.1)) wl0 = (wl1, true) := by
    simp only [List.map_cons, List.map_nil, relF, right_w, if_true, rule_w0]
  simp only [e] at hl4 ⊢
  try (first | refine gl tb ?_ | refine gg tb ?_ | refine ll tb ?_ | refine lg tb ?_); repeat ((first | refine G.condT rfl ?_ | refine G.condF rfl ?_ | refine sFa tb ?_ | refine sLd tb ?_ | refine sLa tb ?_ | refine sLen tb ?_ | refine sFd tb ?_ | refine sBd tb ?_ | refine sBa tb ?_); try (first | refine gl tb ?_ | refine gg tb ?_ | refine ll tb ?_ | refine lg tb ?_))
  refine sCall c7 (due_ok (S []) (.slice none 0 0) (S []) 3 10 0 20 W4 (by decide) (by decide) (by decide)) ?_
  rintro _ W5 ⟨rfl, hx5⟩
  rw [due_w]
  simp only [dueV]
  have hl5 := hl4.to hx5
  have hg2 : (wl1.map Lab.labC)[2]? = some (Lab.labC ([99], [50, 49])) := rfl
  try (first | refine gl tb ?_ | refine gg tb ?_ | refine ll tb ?_ | refine lg tb ?_); repeat ((first | refine G.condT rfl ?_ | refine G.condF rfl ?_ | refine sFa tb ?_ | refine sLd tb ?_ | refine sLa tb ?_ | refine sLen tb ?_ | refine sFd tb ?_ | refine sBd tb ?_ | refine sIa tb 2 ?_); try (first | refine gl tb ?_ | refine gg tb ?_ | refine ll tb ?_ | refine lg tb ?_))
  refine G.ret1 rfl rfl rfl rfl ?_
  exact ⟨rfl, (hx03.trans hx4).trans hx5⟩
end Go.Proofs.YtmkckngecjpklaaDoor
end
section
open Go Go.Vg Go.RowKit Go.Proofs Go.Proofs.YtmkckngecjpklaaDoor
namespace Go.Proofs.YtmkckngecjpklaaDoor
set_option linter.unusedSimpArgs false

set_option maxHeartbeats 2000000 in
theorem due_law (o i frm to_ : Int) (w : World) (ho : I64 o) (hi : I64 i) (hf : I64 frm) (ht : I64 to_) (hT : Tabs w) :
    Ret Tryd.prog 3 ⟨[.agg ⟨[.int .i64 o, .int .i64 i, .int .i64 frm, .int .i64 to_]⟩]⟩ w fun r w' => r = .bool true ∧ Ext w w' := by
  refine ret_of_G Tryd.func3 rfl Tryd.ntmps3 rfl ?_
  simp only [argEnv]
  try (first | refine gl tb ?_ | refine gg tb ?_ | refine ll tb ?_ | refine lg tb ?_); repeat ((first | refine G.condT rfl ?_ | refine G.condF rfl ?_ | refine sFa tb ?_ | refine sLd tb ?_ | refine sLa tb ?_ | refine sLen tb ?_ | refine sFd tb ?_ | refine sBd tb ?_ | refine sBa tb ?_); try (first | refine gl tb ?_ | refine gg tb ?_ | refine ll tb ?_ | refine lg tb ?_))
  refine sBox (fun W1 hb1 hs1 hx1 => ?_)
  try (first | refine gl tb ?_ | refine gg tb ?_ | refine ll tb ?_ | refine lg tb ?_); repeat ((first | refine G.condT rfl ?_ | refine G.condF rfl ?_ | refine sFa tb ?_ | refine sLd tb ?_ | refine sLa tb ?_ | refine sLen tb ?_ | refine sFd tb ?_ | refine sBd tb ?_ | refine sBa tb ?_); try (first | refine gl tb ?_ | refine gg tb ?_ | refine ll tb ?_ | refine lg tb ?_))
  refine G.regionM [(0, true), (1, true), (2, true), (3, true), (4, true), (5, true), (6, true), (7, true), (8, true), (9, true), (10, true), (11, true)] (Ext W1) (by kernel_rfl) (by kernel_rfl) rfl mixed (Ext.drew W1) rfl ?_
  try (refine mm tb ?_); repeat ((first | refine dFa tb ?_ | refine dLd tb ?_ | refine dLa tb ?_ | refine dLen tb ?_ | refine dFd tb ?_); try (refine mm tb ?_))
  refine GM.nil ?_
  have hx1 := hx1.drew'
  generalize W1.drew = W2 at hx1
  try (first | refine gl tb ?_ | refine gg tb ?_ | refine ll tb ?_ | refine lg tb ?_); repeat ((first | refine G.condT rfl ?_ | refine G.condF rfl ?_ | refine sFa tb ?_ | refine sLd tb ?_ | refine sLa tb ?_ | refine sLen tb ?_ | refine sFd tb ?_ | refine sBd tb ?_ | refine sBa tb ?_); try (first | refine gl tb ?_ | refine gg tb ?_ | refine ll tb ?_ | refine lg tb ?_))
  refine sAl tb (fun W3 hb3 hs3 hx3 => ?_)
  refine sSt tb ?_ (vs := tgC (S []) (.slice none 0 0) (S []) o) (hv := rfl) (hb := hb3) (h1 := by simp [Value.oneCell', S, tgC])
  intro W4 hb4 hw4
  have hx4 : Ext W2 W4 := Below.wr hx3 hw4 (Nat.le_refl _)
  have hx04 := hx1.trans hx4
  try (first | refine gl tb ?_ | refine gg tb ?_ | refine ll tb ?_ | refine lg tb ?_); repeat ((first | refine G.condT rfl ?_ | refine G.condF rfl ?_ | refine sFa tb ?_ | refine sLd tb ?_ | refine sLa tb ?_ | refine sLen tb ?_ | refine sFd tb ?_ | refine sBd tb ?_ | refine sBa tb ?_); try (first | refine gl tb ?_ | refine gg tb ?_ | refine ll tb ?_ | refine lg tb ?_))
  refine sCall c7 (due_ok (S []) (.slice none 0 0) (S []) o i frm to_ W4 hi ht hf) ?_
  rintro _ W5 ⟨rfl, hx5⟩
  unfold dueV
  have hb5 := hb4.to hx5
  try (first | refine gl tb ?_ | refine gg tb ?_ | refine ll tb ?_ | refine lg tb ?_); repeat ((first | refine G.condT rfl ?_ | refine G.condF rfl ?_ | refine sFa tb ?_ | refine sLd tb ?_ | refine sLa tb ?_ | refine sLen tb ?_ | refine sFd tb ?_ | refine sBd tb ?_ | refine sBa tb ?_); try (first | refine gl tb ?_ | refine gg tb ?_ | refine ll tb ?_ | refine lg tb ?_))
  refine sCall c8 (refDue_ok (S []) (.slice none 0 0) (S []) o i frm to_ W5 hi ht) ?_
  rintro _ W6 ⟨rfl, hx6⟩
  unfold dueV
  have hb6 := hb5.to hx6
  have hx06 := (hx04.trans hx5).trans hx6
  try (first | refine gl tb ?_ | refine gg tb ?_ | refine ll tb ?_ | refine lg tb ?_); repeat ((first | refine G.condT rfl ?_ | refine G.condF rfl ?_ | refine sFa tb ?_ | refine sLd tb ?_ | refine sLa tb ?_ | refine sLen tb ?_ | refine sFd tb ?_ | refine sBd tb ?_ | refine sBa tb ?_); try (first | refine gl tb ?_ | refine gg tb ?_ | refine ll tb ?_ | refine lg tb ?_))
  first | refine G.condD rfl (fun hc => ?_) (fun hc => ?_) | refine G.condN rfl (fun hc => ?_) (fun hc => ?_) | refine G.cond rfl (fun hc => ?_) (fun hc => ?_)
  · exfalso; simp at hc
  clear hc
  try (first | refine gl tb ?_ | refine gg tb ?_ | refine ll tb ?_ | refine lg tb ?_); repeat ((first | refine G.condT rfl ?_ | refine G.condF rfl ?_ | refine sFa tb ?_ | refine sLd tb ?_ | refine sLa tb ?_ | refine sLen tb ?_ | refine sFd tb ?_ | refine sBd tb ?_ | refine sBa tb ?_); try (first | refine gl tb ?_ | refine gg tb ?_ | refine ll tb ?_ | refine lg tb ?_))
  first | refine G.condD rfl (fun hc => ?_) (fun hc => ?_) | refine G.condN rfl (fun hc => ?_) (fun hc => ?_) | refine G.cond rfl (fun hc => ?_) (fun hc => ?_)
  rotate_left
  · try (first | refine gl tb ?_ | refine gg tb ?_ | refine ll tb ?_ | refine lg tb ?_); repeat ((first | refine G.condT rfl ?_ | refine G.condF rfl ?_ | refine sFa tb ?_ | refine sLd tb ?_ | refine sLa tb ?_ | refine sLen tb ?_ | refine sFd tb ?_ | refine sBd tb ?_ | refine sBa tb ?_); try (first | refine gl tb ?_ | refine gg tb ?_ | refine ll tb ?_ | refine lg tb ?_))
    refine sCall c9 (wakes_okS W6 (hT.to hx06)) ?_
    rintro _ W7 ⟨rfl, hx7⟩
    try (first | refine gl tb ?_ | refine gg tb ?_ | refine ll tb ?_ | refine lg tb ?_); repeat ((first | refine G.condT rfl ?_ | refine G.condF rfl ?_ | refine sFa tb ?_ | refine sLd tb ?_ | refine sLa tb ?_ | refine sLen tb ?_ | refine sFd tb ?_ | refine sBd tb ?_ | refine sBa tb ?_); try (first | refine gl tb ?_ | refine gg tb ?_ | refine ll tb ?_ | refine lg tb ?_))
    refine G.ret1 rfl rfl rfl rfl ?_
    exact ⟨rfl, hx06.trans hx7⟩
  simp only [Bool.and_eq_true, decide_eq_true_eq] at hc
  obtain ⟨⟨⟨⟨⟨c1, c2⟩, c3⟩, c4⟩, c5⟩, c6⟩ := hc
  obtain ⟨a, e1, e2, e3, e4⟩ := Sc.due_one (o := o) (i := i) (frm := frm) (by omega) (by omega) (by omega) (by omega) (by omega)
  try (first | refine gl tb ?_ | refine gg tb ?_ | refine ll tb ?_ | refine lg tb ?_); repeat ((first | refine G.condT rfl ?_ | refine G.condF rfl ?_ | refine sFa tb ?_ | refine sLd tb ?_ | refine sLa tb ?_ | refine sLen tb ?_ | refine sFd tb ?_ | refine sBd tb ?_ | refine sBa tb ?_); try (first | refine gl tb ?_ | refine gg tb ?_ | refine ll tb ?_ | refine lg tb ?_))
  refine sAd tb (r := frm + i) ?_
  try (first | refine gl tb ?_ | refine gg tb ?_ | refine ll tb ?_ | refine lg tb ?_); repeat ((first | refine G.condT rfl ?_ | refine G.condF rfl ?_ | refine sFa tb ?_ | refine sLd tb ?_ | refine sLa tb ?_ | refine sLen tb ?_ | refine sFd tb ?_ | refine sBd tb ?_ | refine sBa tb ?_); try (first | refine gl tb ?_ | refine gg tb ?_ | refine ll tb ?_ | refine lg tb ?_))
  refine sCall c7 (due_ok (S []) (.slice none 0 0) (S []) o i frm (frm + i) W6 hi ⟨by omega, by omega⟩ hf) ?_
  rintro _ W7 ⟨rfl, hx7⟩
  rw [e1]
  simp only [dueV, Option.getD_some, Option.isSome_some]
  have hb7 := hb6.to hx7
  try (first | refine gl tb ?_ | refine gg tb ?_ | refine ll tb ?_ | refine lg tb ?_); repeat ((first | refine G.condT rfl ?_ | refine G.condF rfl ?_ | refine sFa tb ?_ | refine sLd tb ?_ | refine sLa tb ?_ | refine sLen tb ?_ | refine sFd tb ?_ | refine sBd tb ?_ | refine sBa tb ?_); try (first | refine gl tb ?_ | refine gg tb ?_ | refine ll tb ?_ | refine lg tb ?_))
  refine sAd tb (r := frm + i) ?_
  try (first | refine gl tb ?_ | refine gg tb ?_ | refine ll tb ?_ | refine lg tb ?_); repeat ((first | refine G.condT rfl ?_ | refine G.condF rfl ?_ | refine sFa tb ?_ | refine sLd tb ?_ | refine sLa tb ?_ | refine sLen tb ?_ | refine sFd tb ?_ | refine sBd tb ?_ | refine sBa tb ?_); try (first | refine gl tb ?_ | refine gg tb ?_ | refine ll tb ?_ | refine lg tb ?_))
  first | refine G.condD rfl (fun hc => ?_) (fun hc => ?_) | refine G.condN rfl (fun hc => ?_) (fun hc => ?_) | refine G.cond rfl (fun hc => ?_) (fun hc => ?_)
  · exfalso; simp at hc; omega
  clear hc
  try (first | refine gl tb ?_ | refine gg tb ?_ | refine ll tb ?_ | refine lg tb ?_); repeat ((first | refine G.condT rfl ?_ | refine G.condF rfl ?_ | refine sFa tb ?_ | refine sLd tb ?_ | refine sLa tb ?_ | refine sLen tb ?_ | refine sFd tb ?_ | refine sBd tb ?_ | refine sBa tb ?_); try (first | refine gl tb ?_ | refine gg tb ?_ | refine ll tb ?_ | refine lg tb ?_))
  refine sAd tb (r := a + i) ?_
  try (first | refine gl tb ?_ | refine gg tb ?_ | refine ll tb ?_ | refine lg tb ?_); repeat ((first | refine G.condT rfl ?_ | refine G.condF rfl ?_ | refine sFa tb ?_ | refine sLd tb ?_ | refine sLa tb ?_ | refine sLen tb ?_ | refine sFd tb ?_ | refine sBd tb ?_ | refine sBa tb ?_); try (first | refine gl tb ?_ | refine gg tb ?_ | refine ll tb ?_ | refine lg tb ?_))
  refine sAd tb (r := a + i - 1) ?_
  try (first | refine gl tb ?_ | refine gg tb ?_ | refine ll tb ?_ | refine lg tb ?_); repeat ((first | refine G.condT rfl ?_ | refine G.condF rfl ?_ | refine sFa tb ?_ | refine sLd tb ?_ | refine sLa tb ?_ | refine sLen tb ?_ | refine sFd tb ?_ | refine sBd tb ?_ | refine sBa tb ?_); try (first | refine gl tb ?_ | refine gg tb ?_ | refine ll tb ?_ | refine lg tb ?_))
  refine sCall c7 (due_ok (S []) (.slice none 0 0) (S []) o i a (a + i - 1) W7 hi ⟨by omega, by omega⟩ ⟨by omega, by omega⟩) ?_
  rintro _ W8 ⟨rfl, hx8⟩
  rw [e4]
  simp only [dueV, Option.getD_none, Option.isSome_none]
  try (first | refine gl tb ?_ | refine gg tb ?_ | refine ll tb ?_ | refine lg tb ?_); repeat ((first | refine G.condT rfl ?_ | refine G.condF rfl ?_ | refine sFa tb ?_ | refine sLd tb ?_ | refine sLa tb ?_ | refine sLen tb ?_ | refine sFd tb ?_ | refine sBd tb ?_ | refine sBa tb ?_); try (first | refine gl tb ?_ | refine gg tb ?_ | refine ll tb ?_ | refine lg tb ?_))
  have hx08 := (hx06.trans hx7).trans hx8
  refine sCall c9 (wakes_okS W8 (hT.to hx08)) ?_
  rintro _ W9 ⟨rfl, hx9⟩
  try (first | refine gl tb ?_ | refine gg tb ?_ | refine ll tb ?_ | refine lg tb ?_); repeat ((first | refine G.condT rfl ?_ | refine G.condF rfl ?_ | refine sFa tb ?_ | refine sLd tb ?_ | refine sLa tb ?_ | refine sLen tb ?_ | refine sFd tb ?_ | refine sBd tb ?_ | refine sBa tb ?_); try (first | refine gl tb ?_ | refine gg tb ?_ | refine ll tb ?_ | refine lg tb ?_))
  refine G.ret1 rfl rfl rfl rfl ?_
  exact ⟨rfl, hx08.trans hx9⟩
end Go.Proofs.YtmkckngecjpklaaDoor
end
section
namespace Go.Vg
open Go.RowKit Go.Deep Go.WideShapes Go
theorem open_aggN {H : Type} {enc : TypeId × Value → H} {P : Program} {w : World} {base : Nat} {spare : Nat → Bool} {held : Bool} {b0 t m : Nat} {fs : Array Field} {v : Value} {d : DataW H} {p : List MemPlace} (hs : P.underlying t = some (.struct fs)) (hone : oneCellFields P fs = true) (hC : P.cellsOf t = m)
    (hv : OkW P w b0 t v) (h : DataW.Trod enc P w base spare held t v d p) :
    ∃ (cs : List Value) (n : Nat), v = .agg ⟨cs⟩ ∧ cs.length = m ∧ ∀ (i : Nat) (f : Field) (c : Value), fs[i]? = some f → cs[i]? = some c → ∃ y, DataW.trod enc P w base spare held n f.type [c] = some y := by
  obtain ⟨cs, rfl, hsz⟩ := okWide_struct hs hv.ok
  obtain ⟨cs⟩ := cs
  obtain ⟨fuel, hf⟩ := h
  obtain ⟨xs, n, _, hx, hl, hlen, hf⟩ := DataW.trod_struct hs hf
  refine ⟨cs, n, rfl, by simpa [hC] using hsz, fun i f c hi hc => ?_⟩
  obtain ⟨o, k⟩ := hone_of hone i f (by simpa using hi)
  have h1 := hf i f (by simpa using hi)
  have hlt : i < xs.length := by
    rw [hlen]
    have := (Array.getElem?_eq_some_iff.1 hi).1
    simpa using this
  refine ⟨xs[i], ?_⟩
  have hcs : (cs.drop i).take 1 = [c] := by
    have hi2 := List.getElem?_eq_some_iff.1 hc
    obtain ⟨h2, rfl⟩ := hi2
    rw [List.drop_eq_getElem_cons h2]; rfl
  simpa [Value.cells, o, k, hcs, hlt] using h1
end Go.Vg
end
section
open Go Go.Vg Go.RowKit Go.Proofs Go.Proofs.YtmkckngecjpklaaDoor
namespace Go.Proofs.YtmkckngecjpklaaDoor
set_option linter.unusedSimpArgs false
open Go.Lib Go.Shelf Go.ChangeShapes Go.WideShapes Go.ChangeAt
theorem int_of {H : Type} {enc : TypeId × Value → H} {P : Program} {w : World} {b : Nat} {sp : Nat → Bool} {hd : Bool} {t n : Nat} {c : Value} (ht : P.underlying t = some (.int .i64)) (h : ∃ y, DataW.trod enc P w b sp hd n t [c] = some y) : ∃ m : Int, c = .int .i64 m ∧ I64 m := by
  obtain ⟨y, hy⟩ := h
  obtain ⟨m, hm, hw⟩ := open_int1 ht hy
  simp only [List.cons.injEq, and_true] at hm
  exact ⟨m, hm, wf_i64 hw⟩
theorem open_dues {H : Type} {enc : TypeId × Value → H} {w : World} {sp : Nat → Bool} {hd : Bool} {b : Nat} {v : Value} {d : DataW H} {p : List MemPlace}
    (hval : OkW Tryd.prog w b 23 v) (h : DataW.Trod enc Tryd.prog w 0 sp hd 23 v d p) : ∃ o i f t : Int, v = .agg ⟨[.int .i64 o, .int .i64 i, .int .i64 f, .int .i64 t]⟩ ∧ I64 o ∧ I64 i ∧ I64 f ∧ I64 t := by
  obtain ⟨cs, n, rfl, hl, hf⟩ := open_aggN (tb.ok _ _ rfl) (by kernel_rfl) (m := 4) (by kernel_rfl) hval h
  match cs, hl with
  | [c0, c1, c2, c3], _ =>
    obtain ⟨o, rfl, ho⟩ := int_of (tb.ok _ _ rfl) (hf 0 _ c0 rfl rfl)
    obtain ⟨i, rfl, hi⟩ := int_of (tb.ok _ _ rfl) (hf 1 _ c1 rfl rfl)
    obtain ⟨f, rfl, hf'⟩ := int_of (tb.ok _ _ rfl) (hf 2 _ c2 rfl rfl)
    obtain ⟨t, rfl, ht⟩ := int_of (tb.ok _ _ rfl) (hf 3 _ c3 rfl rfl)
    exact ⟨o, i, f, t, rfl, ho, hi, hf', ht⟩
end Go.Proofs.YtmkckngecjpklaaDoor
end
section
open Go Go.Vg Go.RowKit Go.Proofs Go.Proofs.YtmkckngecjpklaaDoor
namespace Go.Proofs.YtmkckngecjpklaaDoor
set_option linter.unusedSimpArgs false
open Go.Lib Go.Shelf Go.ChangeShapes Go.WideShapes Go.ChangeAt

set_option maxRecDepth 100000 in
theorem contract_scrapeDue (H : Type) (enc : TypeId × Value → H) (W : World) (base : Nat) (args : Array Value) (ds gs : List (DataW H)) (before : List MemPlace)
    (hval : ∀ (j : Nat) t v, Tryd.f3.params[j]? = some t → args[j]? = some v → Value.okWide Tryd.prog W .any base t v)
    (hW : DataW.Whole enc Tryd.prog Tryd.f3.params.toList Rows.scrapeDueSpec.vars false W args.toList ds gs before) (hL : laidMetH Tryd.prog Rows.scrapeDueRow.laid W) :
    Calls Tryd.prog 3 args W fun e W' => ∃ v, e = .returned v ∧ Rows.scrapeDueSpec.post enc Tryd.prog Tryd.f3 false true false false W args v W' := by
  have hW' := hW
  obtain ⟨p, q, hA0, hV, rfl, hfz, hnd⟩ := hW
  have hA : DataW.TrodAll enc Tryd.prog W 0 (fun _ => true) true Tryd.f3.params.toList args.toList ds p := hA0
  rw [Tryd.params3] at hA hval
  obtain ⟨v0, vs0, d0, ds0, p0, q0, hargs, rfl, rfl, h0, r0⟩ := trodAll_cons hA
  obtain ⟨rfl, rfl, rfl⟩ := trodAll_nil r0
  obtain rfl : args = #[v0] := by cases args; simp_all
  have k0 := OkW.mk (hval 0 _ v0 rfl rfl)
  obtain ⟨no0, ni0, nf0, nt0, rfl, ho0, hi0, hf0, ht0⟩ := open_dues k0 h0
  refine Calls.mono (due_law no0 ni0 nf0 nt0 W ho0 hi0 hf0 ht0 (tabs hL)) ?_
  rintro e W' ⟨v, rfl, rfl, hx⟩
  exact ⟨_, rfl, law_post laidOut (by kernel_rfl) (tb := 4) rfl (tb.ok _ _ rfl) rfl hW' rfl hx⟩
theorem reads_scrapeDue (os : Os) {H : Type} (enc : TypeId × Value → H) : ∃ places, DataW.whole enc Tryd.prog ((laidWorld os).forCall (fun _ _ => 0) ⟨#[], #[.agg #[.int .i64 0, .int .i64 0, .int .i64 0, .int .i64 0]], []⟩).memory Tryd.f3.params.toList Rows.scrapeDueSpec.vars false #[.agg #[.int .i64 0, .int .i64 0, .int .i64 0, .int .i64 0]].toList 8 = some ([.agg [.lit (.int .i64 0), .lit (.int .i64 0), .lit (.int .i64 0), .lit (.int .i64 0)]], [], places) :=
  ⟨[], by kernel_rfl⟩
set_option maxRecDepth 100000 in
theorem lifted_scrapeDue (os : Os) (started : os.Started) (H : Type) (enc : TypeId × Value → H) (F : Stop.Interp) :
    ReturnsInHanded {} Tryd.checked os 3 .any ((OpenSpec.ofChange Rows.scrapeDueSpec).preRow enc Tryd.prog Tryd.f3 Rows.scrapeDueRow.domain false Rows.scrapeDueRow.laid) (((OpenSpec.ofChange Rows.scrapeDueSpec).at F).post enc Tryd.prog Tryd.f3 false true false false) := by
  obtain ⟨places, hx⟩ := reads_scrapeDue os enc
  refine returnsInHanded_of_row (C := Tryd.checked) (s := OpenSpec.ofChange Rows.scrapeDueSpec) own started (by kernel_rfl) Tryd.func3
    (witness_row_at (enc := enc) (C := Tryd.checked) false (laidWorld os) #[.agg #[.int .i64 0, .int .i64 0, .int .i64 0, .int .i64 0]] rfl (by kernel_rfl) (by kernel_rfl) (by kernel_rfl)
      (OpenSpec.preRow_of_cond 8 hx (by kernel_rfl) (fun k hk => by cases hk) (by kernel_rfl) (laid_met os _))) ?_
  intro W base args ds gs before hval hW _ _ _ hL _ _
  exact contract_scrapeDue H enc W base args ds gs before hval hW hL
theorem said_scrapeDue : Rows.ScrapeDueSaid :=
  OpenClaim.holds_of_cond 3 Tryd.f3 rfl rfl rfl rfl rfl rfl rfl ⟨rfl, rfl, rfl, rfl, rfl⟩ rfl rfl rfl rfl rfl (by kernel_rfl) Tryd.func3 (by kernel_rfl)
    (of_decide_eq_true (by kernel_rfl)) (by unfold Func.isWrapper; first | (rw [if_pos (by decide +kernel)]; kernel_rfl) | (rw [if_neg (by decide +kernel)]; exact ⟨rfl, rfl⟩))
    (fun os started H enc _ F => by rw [OpenClaim.pre_eq_preRow]; exact lifted_scrapeDue os started H enc F)
theorem plain_scrapeDue (f : FuncId) (fn : Func) (hf : Tryd.pinned.checked.prog.funcNamed "vigil/vigillaw12.ScrapeDue" = some f) (hfn : Tryd.pinned.checked.prog.funcs[f]? = some fn) :
    true = Tryd.pinned.checked.prog.looks [] ∧ ∀ (j : Nat) t, fn.params[j]? = some t → Tryd.pinned.checked.prog.wantsStandIn t = false := by
  obtain rfl : f = 3 := Option.some.inj ((show Tryd.prog.funcNamed "vigil/vigillaw12.ScrapeDue" = some 3 by kernel_rfl).symm.trans hf) |>.symm
  obtain rfl : fn = Tryd.f3 := (Option.some.inj (Tryd.func3.symm.trans hfn)).symm
  refine ⟨by kernel_rfl, fun j t ht => ?_⟩
  rw [Tryd.params3] at ht
  have hm : t ∈ #[23] := Array.mem_of_getElem? ht
  simp only [List.mem_toArray, List.mem_cons, List.not_mem_nil, or_false] at hm
  rcases hm with rfl
  · exact (show Tryd.prog.wantsStandIn 23 = false by kernel_rfl)
/-- ScrapeDue: of any offset, interval and times, when a target is due is told as the reference tells it, and once in an interval. -/
theorem ScrapeDue_holds : Rows.ScrapeDueCardSaid :=
  Claim7.holds_tied_plain_at .later [] _ _ _ _ said_scrapeDue (fun _ h => by cases h) (by kernel_rfl) (fun _ h => by cases h) scrapeDue_row_tie rfl ⟨rfl, rfl⟩ (by kernel_rfl) rfl plain_scrapeDue (by kernel_rfl)
end Go.Proofs.YtmkckngecjpklaaDoor
end
