/- ScrapeStale: of any bits, just the marker of an end is told to be one, and what came in stays as it was. Conditions: none beyond the statement's own. -/
import Derived.Test.YtmkckngecjpklaaDoorP08
import Derived.Lib.ValidLaws
import Derived.Lib.SmallJoins
section
open Go Go.Vg Go.RowKit Go.Proofs Go.Proofs.YtmkckngecjpklaaDoor
namespace Go.Proofs.YtmkckngecjpklaaDoor
set_option linter.unusedSimpArgs false

def relF (F : Rule → List Lab.Lab → List Lab.Lab × Bool) : List Rule → List Lab.Lab → List Lab.Lab × Bool
  | [], ls => (ls, true)
  | r :: rs, ls => if rightR r = true then (if (F r ls).2 = true then relF F rs (F r ls).1 else ([], false)) else relF F rs ls
abbrev relC2 (p : Rule × Value) : List Value := relC p.1 p.2
/-- what a rule's walk must show -/
def RuleOk (F : Rule → List Lab.Lab → List Lab.Lab × Bool) (Inv : List Lab.Lab → Prop) (w : World) (p : Rule × Value) : Prop :=
  ∀ W v cur, rightR p.1 = true → Ext w W → Inv cur → Lab.Labs W v cur →
    Ret Tryd.prog 26 ⟨[v, .agg ⟨relC p.1 p.2⟩]⟩ W (fun x w' => ∃ u, x = .tuple ⟨[u, .bool (F p.1 cur).2]⟩ ∧ Lab.Labs w' u (F p.1 cur).1 ∧ Ext W w') ∧ ((F p.1 cur).2 = true → Inv (F p.1 cur).1)
theorem relC_one {r : Rule} {sv : Value} {w : World} (h : Srcs w r sv) : ∀ c ∈ relC r sv, c.oneCell' = true := by
  obtain ⟨a, cap, rfl, _⟩ := h.len
  simp [relC, Value.oneCell', S]
theorem relabel_ok (F : Rule → List Lab.Lab → List Lab.Lab × Bool) (Inv : List Lab.Lab → Prop) (v us : Value) (ls : List Lab.Lab) (rs : List (Rule × Value)) (w : World) (hv : Lab.Labs w v ls) (hi : Inv ls) (hn : ls.length ≤ 1000)
    (hu : Sli w us 7 (rs.map relC2)) (hsr : ∀ p ∈ rs, Srcs w p.1 p.2 ∧ RuleSz p.1 ∧ RuleOk F Inv w p) (hT : Tabs w) :
    Ret Tryd.prog 13 ⟨[v, us]⟩ w fun x w' => ∃ u, x = .tuple ⟨[u, .bool (relF F (rs.map (·.1)) ls).2]⟩ ∧ Lab.Labs w' u (relF F (rs.map (·.1)) ls).1 ∧ Ext w w' := by
  have hbd := hu.bound
  rw [List.length_map] at hbd
  refine ret_of_G Tryd.func13 rfl Tryd.ntmps13 rfl ?_
  simp only [argEnv]
  try (first | refine gl tb ?_ | refine gg tb ?_ | refine ll tb ?_ | refine lg tb ?_); repeat ((first | refine G.condT rfl ?_ | refine G.condF rfl ?_ | refine sFa tb ?_ | refine sLd tb ?_ | refine sLa tb ?_ | refine sLen tb ?_ | refine sFd tb ?_ | refine sBd tb ?_ | refine sBa tb ?_); try (first | refine gl tb ?_ | refine gg tb ?_ | refine ll tb ?_ | refine lg tb ?_))
  refine G.scope rfl rfl ?_
  try (first | refine gl tb ?_ | refine gg tb ?_ | refine ll tb ?_ | refine lg tb ?_); repeat ((first | refine G.condT rfl ?_ | refine G.condF rfl ?_ | refine sFa tb ?_ | refine sLd tb ?_ | refine sLa tb ?_ | refine sLen tb ?_ | refine sFd tb ?_ | refine sBd tb ?_ | refine sBa tb ?_); try (first | refine gl tb ?_ | refine gg tb ?_ | refine ll tb ?_ | refine lg tb ?_))
  refine sApp tb (Owns.nil w w.heap.size 42 2) hv ?_ (h1 := Lab.lab1 ls) (hB := Nat.le_refl _)
  intro v1 W1 ho1 hg1
  have hx1 : Ext w W1 := hg1.below _ (Ext.refl _)
  have hv1 := ho1.sli
  rw [List.nil_append] at hv1
  have hu1 := hu.to hx1
  try (first | refine gl tb ?_ | refine gg tb ?_ | refine ll tb ?_ | refine lg tb ?_); repeat ((first | refine G.condT rfl ?_ | refine G.condF rfl ?_ | refine sFa tb ?_ | refine sLd tb ?_ | refine sLa tb ?_ | refine sLen tb ?_ | refine sFd tb ?_ | refine sBd tb ?_ | refine sBa tb ?_); try (first | refine gl tb ?_ | refine gg tb ?_ | refine ll tb ?_ | refine lg tb ?_))
  refine G.label ?_
  try (first | refine gl tb ?_ | refine gg tb ?_ | refine ll tb ?_ | refine lg tb ?_); repeat ((first | refine G.condT rfl ?_ | refine G.condF rfl ?_ | refine sFa tb ?_ | refine sLd tb ?_ | refine sLa tb ?_ | refine sLen tb ?_ | refine sFd tb ?_ | refine sBd tb ?_ | refine sBa tb ?_); try (first | refine gl tb ?_ | refine gg tb ?_ | refine ll tb ?_ | refine lg tb ?_))
  rw [List.length_map]
  try (first | refine gl tb ?_ | refine gg tb ?_ | refine ll tb ?_ | refine lg tb ?_); repeat ((first | refine G.condT rfl ?_ | refine G.condF rfl ?_ | refine sFa tb ?_ | refine sLd tb ?_ | refine sLa tb ?_ | refine sLen tb ?_ | refine sFd tb ?_ | refine sBd tb ?_ | refine sBa tb ?_); try (first | refine gl tb ?_ | refine gg tb ?_ | refine ll tb ?_ | refine lg tb ?_))
  refine (G.loop (fun x : Nat × Value × List Lab.Lab => [(0, none, x.2.1), (1, none, us), (6, none, .bool true), (11, none, us), (12, none, .int .i64 rs.length), (13, none, .int .i64 x.1)])
    (fun x W => Ext w W ∧ x.1 ≤ rs.length ∧ Lab.Labs W x.2.1 x.2.2 ∧ Inv x.2.2 ∧ relF F (rs.map (·.1)) ls = relF F ((rs.drop x.1).map (·.1)) x.2.2) (fun x => rs.length - x.1) (0, v1, ls) (by repeat (first | exact Sub.nil _ | refine Sub.cons rfl ?_)) ⟨hx1, Nat.zero_le _, hv1, hi, rfl⟩ ?_)
  rintro ⟨k, s, cur⟩ W ⟨hx, hk, hs, hic, he⟩
  simp only at hk hs hic he ⊢
  have huW := hu.to hx
  try (first | refine gl tb ?_ | refine gg tb ?_ | refine ll tb ?_ | refine lg tb ?_); repeat ((first | refine G.condT rfl ?_ | refine G.condF rfl ?_ | refine sFa tb ?_ | refine sLd tb ?_ | refine sLa tb ?_ | refine sLen tb ?_ | refine sFd tb ?_ | refine sBd tb ?_ | refine sBa tb ?_); try (first | refine gl tb ?_ | refine gg tb ?_ | refine ll tb ?_ | refine lg tb ?_))
  first | refine G.condD rfl (fun hc => ?_) (fun hc => ?_) | refine G.condN rfl (fun hc => ?_) (fun hc => ?_) | refine G.cond rfl (fun hc => ?_) (fun hc => ?_)
  · have hlt : k < rs.length := by omega
    have hget : (rs.map relC2)[k]? = some (relC2 rs[k]) := by simp [hlt]
    have hmem : rs[k] ∈ rs := List.getElem_mem hlt
    have hdr : rs.drop k = rs[k] :: rs.drop (k + 1) := List.drop_eq_getElem_cons hlt
    generalize rs[k] = p at hget hmem hdr
    obtain ⟨hsr, hsz, hok⟩ := hsr p hmem
    rw [hdr, List.map_cons] at he
    try (first | refine gl tb ?_ | refine gg tb ?_ | refine ll tb ?_ | refine lg tb ?_); repeat ((first | refine G.condT rfl ?_ | refine G.condF rfl ?_ | refine sFa tb ?_ | refine sLd tb ?_ | refine sLa tb ?_ | refine sLen tb ?_ | refine sFd tb ?_ | refine sBd tb ?_ | refine sIa tb k ?_); try (first | refine gl tb ?_ | refine gg tb ?_ | refine ll tb ?_ | refine lg tb ?_))
    refine sAl tb ?_
    intro W2 hb2 hs2 hx2
    refine sSt tb ?_ (vs := relC2 p) (hv := rfl) (hb := hb2) (h1 := relC_one hsr)
    intro W3 hb3 hw3
    have hx3 : Ext W W3 := Below.wr hx2 hw3 (Nat.le_refl _)
    have hx03 := hx.trans hx3
    try (first | refine gl tb ?_ | refine gg tb ?_ | refine ll tb ?_ | refine lg tb ?_); repeat ((first | refine G.condT rfl ?_ | refine G.condF rfl ?_ | refine sFa tb ?_ | refine sLd tb ?_ | refine sLa tb ?_ | refine sLen tb ?_ | refine sFd tb ?_ | refine sBd tb ?_ | refine sBa tb ?_); try (first | refine gl tb ?_ | refine gg tb ?_ | refine ll tb ?_ | refine lg tb ?_))
    refine sCall c12 (right_okR p.2 p.1 W3 (hsr.to hx03) hsz (hT.to hx03)) ?_
    rintro _ W4 ⟨rfl, hx4⟩
    have hx04 := hx03.trans hx4
    have hb4 := hb3.to hx4
    try (first | refine gl tb ?_ | refine gg tb ?_ | refine ll tb ?_ | refine lg tb ?_); repeat ((first | refine G.condT rfl ?_ | refine G.condF rfl ?_ | refine sFa tb ?_ | refine sLd tb ?_ | refine sLa tb ?_ | refine sLen tb ?_ | refine sFd tb ?_ | refine sBd tb ?_ | refine sBa tb ?_); try (first | refine gl tb ?_ | refine gg tb ?_ | refine ll tb ?_ | refine lg tb ?_))
    first | refine G.condD rfl (fun hc => ?_) (fun hc => ?_) | refine G.condN rfl (fun hc => ?_) (fun hc => ?_) | refine G.cond rfl (fun hc => ?_) (fun hc => ?_)
    · have hr : ¬ rightR p.1 = true := by
        intro h; rw [h] at hc; cases hc
      rw [relF, if_neg hr] at he
      try (first | refine gl tb ?_ | refine gg tb ?_ | refine ll tb ?_ | refine lg tb ?_); repeat ((first | refine G.condT rfl ?_ | refine G.condF rfl ?_ | refine sFa tb ?_ | refine sLd tb ?_ | refine sLa tb ?_ | refine sLen tb ?_ | refine sFd tb ?_ | refine sBd tb ?_ | refine sBa tb ?_); try (first | refine gl tb ?_ | refine gg tb ?_ | refine ll tb ?_ | refine lg tb ?_))
      refine sAd tb ?_
      try (first | refine gl tb ?_ | refine gg tb ?_ | refine ll tb ?_ | refine lg tb ?_); repeat ((first | refine G.condT rfl ?_ | refine G.condF rfl ?_ | refine sFa tb ?_ | refine sLd tb ?_ | refine sLa tb ?_ | refine sLen tb ?_ | refine sFd tb ?_ | refine sBd tb ?_ | refine sBa tb ?_); try (first | refine gl tb ?_ | refine gg tb ?_ | refine ll tb ?_ | refine lg tb ?_))
      exact G.lp (x := (k, s, cur)) (k + 1, s, cur) (by repeat (first | exact Sub.nil _ | refine Sub.cons rfl ?_)) ⟨hx04, by simp only; omega, hs.to ((hx3.trans hx4)), hic, he⟩ (by simp only; omega)
    · have hr : rightR p.1 = true := by
        rcases h : rightR p.1 with _ | _
        · rw [h] at hc; cases hc
        · rfl
      rw [relF, if_pos hr] at he
      obtain ⟨hret, hinv⟩ := hok W4 s cur hr hx04 hic (hs.to (hx3.trans hx4))
      try (first | refine gl tb ?_ | refine gg tb ?_ | refine ll tb ?_ | refine lg tb ?_); repeat ((first | refine G.condT rfl ?_ | refine G.condF rfl ?_ | refine sFa tb ?_ | refine sLd tb ?_ | refine sLa tb ?_ | refine sLen tb ?_ | refine sFd tb ?_ | refine sBd tb ?_ | refine sBa tb ?_); try (first | refine gl tb ?_ | refine gg tb ?_ | refine ll tb ?_ | refine lg tb ?_))
      refine sCall c26 (hret) ?_
      rintro _ W5 ⟨u, rfl, hu5, hx5⟩
      have hx05 := hx04.trans hx5
      try (first | refine gl tb ?_ | refine gg tb ?_ | refine ll tb ?_ | refine lg tb ?_); repeat ((first | refine G.condT rfl ?_ | refine G.condF rfl ?_ | refine sFa tb ?_ | refine sLd tb ?_ | refine sLa tb ?_ | refine sLen tb ?_ | refine sFd tb ?_ | refine sBd tb ?_ | refine sBa tb ?_); try (first | refine gl tb ?_ | refine gg tb ?_ | refine ll tb ?_ | refine lg tb ?_))
      first | refine G.condD rfl (fun hc => ?_) (fun hc => ?_) | refine G.condN rfl (fun hc => ?_) (fun hc => ?_) | refine G.cond rfl (fun hc => ?_) (fun hc => ?_)
      · have h2 : ¬ (F p.1 cur).2 = true := by
          intro h; rw [h] at hc; cases hc
        rw [if_neg h2] at he
        have h3 : (F p.1 cur).2 = false := by simpa using h2
        try (first | refine gl tb ?_ | refine gg tb ?_ | refine ll tb ?_ | refine lg tb ?_); repeat ((first | refine G.condT rfl ?_ | refine G.condF rfl ?_ | refine sFa tb ?_ | refine sLd tb ?_ | refine sLa tb ?_ | refine sLen tb ?_ | refine sFd tb ?_ | refine sBd tb ?_ | refine sBa tb ?_); try (first | refine gl tb ?_ | refine gg tb ?_ | refine ll tb ?_ | refine lg tb ?_))
        refine G.ret2 rfl rfl rfl rfl rfl ?_
        rw [he]
        exact ⟨_, by rw [h3], Sli.nil _ _, hx05⟩
      · have h2 : (F p.1 cur).2 = true := by
          rcases h : (F p.1 cur).2 with _ | _
          · rw [h] at hc; cases hc
          · rfl
        rw [if_pos h2] at he
        try (first | refine gl tb ?_ | refine gg tb ?_ | refine ll tb ?_ | refine lg tb ?_); repeat ((first | refine G.condT rfl ?_ | refine G.condF rfl ?_ | refine sFa tb ?_ | refine sLd tb ?_ | refine sLa tb ?_ | refine sLen tb ?_ | refine sFd tb ?_ | refine sBd tb ?_ | refine sBa tb ?_); try (first | refine gl tb ?_ | refine gg tb ?_ | refine ll tb ?_ | refine lg tb ?_))
        refine sAd tb ?_
        try (first | refine gl tb ?_ | refine gg tb ?_ | refine ll tb ?_ | refine lg tb ?_); repeat ((first | refine G.condT rfl ?_ | refine G.condF rfl ?_ | refine sFa tb ?_ | refine sLd tb ?_ | refine sLa tb ?_ | refine sLen tb ?_ | refine sFd tb ?_ | refine sBd tb ?_ | refine sBa tb ?_); try (first | refine gl tb ?_ | refine gg tb ?_ | refine ll tb ?_ | refine lg tb ?_))
        refine G.lp (x := (k, s, cur)) (k + 1, u, (F p.1 cur).1) ?_ ⟨hx05, by simp only; omega, hu5, hinv h2, he⟩ (by simp only; omega)
        rw [h2]
        exact (by repeat (first | exact Sub.nil _ | refine Sub.cons rfl ?_))
  · obtain rfl : k = rs.length := by omega
    rw [List.drop_length] at he
    try (first | refine gl tb ?_ | refine gg tb ?_ | refine ll tb ?_ | refine lg tb ?_); repeat ((first | refine G.condT rfl ?_ | refine G.condF rfl ?_ | refine sFa tb ?_ | refine sLd tb ?_ | refine sLa tb ?_ | refine sLen tb ?_ | refine sFd tb ?_ | refine sBd tb ?_ | refine sBa tb ?_); try (first | refine gl tb ?_ | refine gg tb ?_ | refine ll tb ?_ | refine lg tb ?_))
    refine G.ret2 rfl rfl rfl rfl rfl ?_
    rw [he]
    exact ⟨_, rfl, hs, hx⟩
end Go.Proofs.YtmkckngecjpklaaDoor
end
section
namespace Go.Sc
/-- how far a time is behind the last one of a target -/
def back (t o i : Int) : Int := (t - o) % i
theorem back_eq {t o i : Int} (hi : 0 < i) (h0 : 0 ≤ o) (h1 : o < i) : back t o i = if t % i - o < 0 then t % i - o + i else t % i - o := by
  have e1 := Int.emod_nonneg t (show i ≠ 0 by omega)
  have e2 := Int.emod_lt_of_pos t hi
  have e3 : (t - o) % i = (t % i - o) % i := by rw [Int.sub_emod t o i, Int.sub_emod (t % i) o i, Int.emod_emod]
  unfold back
  rw [e3]
  split
  · rw [← Int.add_emod_right, Int.emod_eq_of_lt (by omega) (by omega)]
  · rw [Int.emod_eq_of_lt (by omega) (by omega)]
theorem back_bd {t o i : Int} (hi : 0 < i) : 0 ≤ back t o i ∧ back t o i < i := ⟨Int.emod_nonneg _ (by omega), Int.emod_lt_of_pos _ hi⟩
/-- P12.4: when a target is due last in a time -/
def due (o i frm to_ : Int) : Option Int :=
  if i < 1 ∨ o < 0 ∨ i ≤ o ∨ to_ ≤ frm then none
  else if to_ < -9223372036854775808 + back to_ o i ∨ to_ - back to_ o i ≤ frm then none else some (to_ - back to_ o i)
end Go.Sc
end
section
open Go Go.Vg Go.RowKit Go.Proofs Go.Proofs.YtmkckngecjpklaaDoor
namespace Go.Proofs.YtmkckngecjpklaaDoor
set_option linter.unusedSimpArgs false

abbrev I64 (n : Int) : Prop := -9223372036854775808 ≤ n ∧ n ≤ 9223372036854775807
theorem tmod_or {t i : Int} (hi : 0 < i) : t.tmod i = t % i ∨ t.tmod i = t % i - i := by
  have e := Int.tmod_eq_emod (a := t) (b := i)
  split at e
  · left; simpa using e
  · right; omega
theorem tmod_eq {t i : Int} (hi : 0 < i) : (if t.tmod i < 0 then t.tmod i + i else t.tmod i) = t % i := by
  have h1 := Int.emod_nonneg t (show i ≠ 0 by omega)
  have h2 := Int.emod_lt_of_pos t hi
  have h3 := tmod_or (t := t) hi
  split <;> omega
theorem tmod_bd {t i : Int} (hi : 0 < i) : -i ≤ t.tmod i ∧ t.tmod i < i := by
  have h1 := Int.emod_nonneg t (show i ≠ 0 by omega)
  have h2 := Int.emod_lt_of_pos t hi
  have h3 := tmod_or (t := t) hi
  omega
theorem below_ok (t o i : Int) (w : World) (hi : 1 ≤ i) (h0 : 0 ≤ o) (h1 : o < i) (hI : i ≤ 9223372036854775807) :
    Ret Tryd.prog 21 ⟨[.int .i64 t, .int .i64 o, .int .i64 i]⟩ w fun r w' => r = .int .i64 (Sc.back t o i) ∧ w' = w := by
  have hbd := tmod_bd (t := t) (i := i) (by omega)
  have heq := tmod_eq (t := t) (i := i) (by omega)
  have hbk := Sc.back_eq (t := t) (o := o) (i := i) (by omega) h0 h1
  have he := Int.emod_nonneg t (show i ≠ 0 by omega)
  have he2 := Int.emod_lt_of_pos t (show 0 < i by omega)
  refine ret_of_G Tryd.func21 rfl Tryd.ntmps21 rfl ?_
  simp only [argEnv]
  try (first | refine gl tb ?_ | refine gg tb ?_ | refine ll tb ?_ | refine lg tb ?_); repeat ((first | refine G.condT rfl ?_ | refine G.condF rfl ?_ | refine sFa tb ?_ | refine sLd tb ?_ | refine sLa tb ?_ | refine sLen tb ?_ | refine sFd tb ?_ | refine sBd tb ?_ | refine sBa tb ?_); try (first | refine gl tb ?_ | refine gg tb ?_ | refine ll tb ?_ | refine lg tb ?_))
  refine sRem rfl ?_
  generalize t.tmod i = m at hbd heq
  generalize t % i = n at hbk he he2 heq
  try (first | refine gl tb ?_ | refine gg tb ?_ | refine ll tb ?_ | refine lg tb ?_); repeat ((first | refine G.condT rfl ?_ | refine G.condF rfl ?_ | refine sFa tb ?_ | refine sLd tb ?_ | refine sLa tb ?_ | refine sLen tb ?_ | refine sFd tb ?_ | refine sBd tb ?_ | refine sBa tb ?_); try (first | refine gl tb ?_ | refine gg tb ?_ | refine ll tb ?_ | refine lg tb ?_))
  refine (G.join (fun _ : Unit => [(1, none, .int .i64 o), (2, none, .int .i64 i), (7, none, .int .i64 n)]) (fun _ W => W = w) (fun _ W hW => ?_) ?_)
  · subst hW
    try (first | refine gl tb ?_ | refine gg tb ?_ | refine ll tb ?_ | refine lg tb ?_); repeat ((first | refine G.condT rfl ?_ | refine G.condF rfl ?_ | refine sFa tb ?_ | refine sLd tb ?_ | refine sLa tb ?_ | refine sLen tb ?_ | refine sFd tb ?_ | refine sBd tb ?_ | refine sBa tb ?_); try (first | refine gl tb ?_ | refine gg tb ?_ | refine ll tb ?_ | refine lg tb ?_))
    refine sAd tb (r := n - o) ?_
    try (first | refine gl tb ?_ | refine gg tb ?_ | refine ll tb ?_ | refine lg tb ?_); repeat ((first | refine G.condT rfl ?_ | refine G.condF rfl ?_ | refine sFa tb ?_ | refine sLd tb ?_ | refine sLa tb ?_ | refine sLen tb ?_ | refine sFd tb ?_ | refine sBd tb ?_ | refine sBa tb ?_); try (first | refine gl tb ?_ | refine gg tb ?_ | refine ll tb ?_ | refine lg tb ?_))
    first | refine G.condD rfl (fun hc => ?_) (fun hc => ?_) | refine G.condN rfl (fun hc => ?_) (fun hc => ?_) | refine G.cond rfl (fun hc => ?_) (fun hc => ?_)
    · try (first | refine gl tb ?_ | refine gg tb ?_ | refine ll tb ?_ | refine lg tb ?_); repeat ((first | refine G.condT rfl ?_ | refine G.condF rfl ?_ | refine sFa tb ?_ | refine sLd tb ?_ | refine sLa tb ?_ | refine sLen tb ?_ | refine sFd tb ?_ | refine sBd tb ?_ | refine sBa tb ?_); try (first | refine gl tb ?_ | refine gg tb ?_ | refine ll tb ?_ | refine lg tb ?_))
      refine sAd tb (r := n - o + i) ?_
      try (first | refine gl tb ?_ | refine gg tb ?_ | refine ll tb ?_ | refine lg tb ?_); repeat ((first | refine G.condT rfl ?_ | refine G.condF rfl ?_ | refine sFa tb ?_ | refine sLd tb ?_ | refine sLa tb ?_ | refine sLen tb ?_ | refine sFd tb ?_ | refine sBd tb ?_ | refine sBa tb ?_); try (first | refine gl tb ?_ | refine gg tb ?_ | refine ll tb ?_ | refine lg tb ?_))
      refine G.ret1 rfl rfl rfl rfl ?_
      exact ⟨by rw [hbk, if_pos (by omega)], rfl⟩
    · try (first | refine gl tb ?_ | refine gg tb ?_ | refine ll tb ?_ | refine lg tb ?_); repeat ((first | refine G.condT rfl ?_ | refine G.condF rfl ?_ | refine sFa tb ?_ | refine sLd tb ?_ | refine sLa tb ?_ | refine sLen tb ?_ | refine sFd tb ?_ | refine sBd tb ?_ | refine sBa tb ?_); try (first | refine gl tb ?_ | refine gg tb ?_ | refine ll tb ?_ | refine lg tb ?_))
      refine G.ret1 rfl rfl rfl rfl ?_
      exact ⟨by rw [hbk, if_neg (by omega)], rfl⟩
  · first | refine G.condD rfl (fun hc => ?_) (fun hc => ?_) | refine G.condN rfl (fun hc => ?_) (fun hc => ?_) | refine G.cond rfl (fun hc => ?_) (fun hc => ?_)
    · try (first | refine gl tb ?_ | refine gg tb ?_ | refine ll tb ?_ | refine lg tb ?_); repeat ((first | refine G.condT rfl ?_ | refine G.condF rfl ?_ | refine sFa tb ?_ | refine sLd tb ?_ | refine sLa tb ?_ | refine sLen tb ?_ | refine sFd tb ?_ | refine sBd tb ?_ | refine sBa tb ?_); try (first | refine gl tb ?_ | refine gg tb ?_ | refine ll tb ?_ | refine lg tb ?_))
      refine sAd tb (r := n) ?_ (hp := by rw [if_pos hc] at heq; show IntKind.i64.wrap _ = _; rw [wrap_i64 (by omega) (by omega)]; omega)
      try (first | refine gl tb ?_ | refine gg tb ?_ | refine ll tb ?_ | refine lg tb ?_); repeat ((first | refine G.condT rfl ?_ | refine G.condF rfl ?_ | refine sFa tb ?_ | refine sLd tb ?_ | refine sLa tb ?_ | refine sLen tb ?_ | refine sFd tb ?_ | refine sBd tb ?_ | refine sBa tb ?_); try (first | refine gl tb ?_ | refine gg tb ?_ | refine ll tb ?_ | refine lg tb ?_))
      exact G.met () (by repeat (first | exact Sub.nil _ | refine Sub.cons rfl ?_)) rfl
    · rw [if_neg hc] at heq
      subst heq
      try (first | refine gl tb ?_ | refine gg tb ?_ | refine ll tb ?_ | refine lg tb ?_); repeat ((first | refine G.condT rfl ?_ | refine G.condF rfl ?_ | refine sFa tb ?_ | refine sLd tb ?_ | refine sLa tb ?_ | refine sLen tb ?_ | refine sFd tb ?_ | refine sBd tb ?_ | refine sBa tb ?_); try (first | refine gl tb ?_ | refine gg tb ?_ | refine ll tb ?_ | refine lg tb ?_))
      exact G.met () (by repeat (first | exact Sub.nil _ | refine Sub.cons rfl ?_)) rfl
/-- what is told of a time -/
def dueV (d : Option Int) : Value := .tuple ⟨[.int .i64 (d.getD 0), .bool d.isSome]⟩
/-- a target's cells -/
def tgC (a b c : Value) (o : Int) : List Value := [a, b, c, .int .i64 o]
set_option maxHeartbeats 1000000 in
theorem due_ok (a b c : Value) (o i frm to_ : Int) (w : World) (hi : I64 i) (ht : I64 to_) (hf : I64 frm) :
    Ret Tryd.prog 7 ⟨[.agg ⟨tgC a b c o⟩, .int .i64 i, .int .i64 frm, .int .i64 to_]⟩ w fun r w' => r = dueV (Sc.due o i frm to_) ∧ Ext w w' := by
  obtain ⟨hi1, hi2⟩ := hi
  obtain ⟨ht1, ht2⟩ := ht
  refine ret_of_G Tryd.func7 rfl Tryd.ntmps7 rfl ?_
  simp only [argEnv]
  try (first | refine gl tb ?_ | refine gg tb ?_ | refine ll tb ?_ | refine lg tb ?_); repeat ((first | refine G.condT rfl ?_ | refine G.condF rfl ?_ | refine sFa tb ?_ | refine sLd tb ?_ | refine sLa tb ?_ | refine sLen tb ?_ | refine sFd tb ?_ | refine sBd tb ?_ | refine sBa tb ?_); try (first | refine gl tb ?_ | refine gg tb ?_ | refine ll tb ?_ | refine lg tb ?_))
  refine sBox (us := tgC a b c o) (fun W1 hb1 hs1 hx1 => ?_)
  try (first | refine gl tb ?_ | refine gg tb ?_ | refine ll tb ?_ | refine lg tb ?_); repeat ((first | refine G.condT rfl ?_ | refine G.condF rfl ?_ | refine sFa tb ?_ | refine sLd tb ?_ | refine sLa tb ?_ | refine sLen tb ?_ | refine sFd tb ?_ | refine sBd tb ?_ | refine sBa tb ?_); try (first | refine gl tb ?_ | refine gg tb ?_ | refine ll tb ?_ | refine lg tb ?_))
  first | refine G.condD rfl (fun hc => ?_) (fun hc => ?_) | refine G.condN rfl (fun hc => ?_) (fun hc => ?_) | refine G.cond rfl (fun hc => ?_) (fun hc => ?_)
  · have hn : Sc.due o i frm to_ = none := by
      unfold Sc.due
      simp only [Bool.or_eq_true, decide_eq_true_eq] at hc
      rw [if_pos (by omega)]
    try (first | refine gl tb ?_ | refine gg tb ?_ | refine ll tb ?_ | refine lg tb ?_); repeat ((first | refine G.condT rfl ?_ | refine G.condF rfl ?_ | refine sFa tb ?_ | refine sLd tb ?_ | refine sLa tb ?_ | refine sLen tb ?_ | refine sFd tb ?_ | refine sBd tb ?_ | refine sBa tb ?_); try (first | refine gl tb ?_ | refine gg tb ?_ | refine ll tb ?_ | refine lg tb ?_))
    refine G.ret2 rfl rfl rfl rfl rfl ?_
    exact ⟨by rw [hn]; rfl, hx1⟩
  simp only [Bool.or_eq_false_iff, decide_eq_false_iff_not] at hc
  obtain ⟨⟨⟨c1, c2⟩, c3⟩, c4⟩ := hc
  have hbd := Sc.back_bd (t := to_) (o := o) (i := i) (by omega)
  have hdue : Sc.due o i frm to_ = if to_ < -9223372036854775808 + Sc.back to_ o i ∨ to_ - Sc.back to_ o i ≤ frm then none else some (to_ - Sc.back to_ o i) := by
    unfold Sc.due
    rw [if_neg (by omega)]
  try (first | refine gl tb ?_ | refine gg tb ?_ | refine ll tb ?_ | refine lg tb ?_); repeat ((first | refine G.condT rfl ?_ | refine G.condF rfl ?_ | refine sFa tb ?_ | refine sLd tb ?_ | refine sLa tb ?_ | refine sLen tb ?_ | refine sFd tb ?_ | refine sBd tb ?_ | refine sBa tb ?_); try (first | refine gl tb ?_ | refine gg tb ?_ | refine ll tb ?_ | refine lg tb ?_))
  refine sCall c21 (below_ok to_ o i W1 (by omega) (by omega) (by omega) hi2) ?_
  rintro _ W2 ⟨rfl, rfl⟩
  generalize Sc.back to_ o i = m at hbd hdue
  try (first | refine gl tb ?_ | refine gg tb ?_ | refine ll tb ?_ | refine lg tb ?_); repeat ((first | refine G.condT rfl ?_ | refine G.condF rfl ?_ | refine sFa tb ?_ | refine sLd tb ?_ | refine sLa tb ?_ | refine sLen tb ?_ | refine sFd tb ?_ | refine sBd tb ?_ | refine sBa tb ?_); try (first | refine gl tb ?_ | refine gg tb ?_ | refine ll tb ?_ | refine lg tb ?_))
  refine sAd tb (r := -9223372036854775808 + m) ?_
  try (first | refine gl tb ?_ | refine gg tb ?_ | refine ll tb ?_ | refine lg tb ?_); repeat ((first | refine G.condT rfl ?_ | refine G.condF rfl ?_ | refine sFa tb ?_ | refine sLd tb ?_ | refine sLa tb ?_ | refine sLen tb ?_ | refine sFd tb ?_ | refine sBd tb ?_ | refine sBa tb ?_); try (first | refine gl tb ?_ | refine gg tb ?_ | refine ll tb ?_ | refine lg tb ?_))
  refine sAd tb (r := IntKind.i64.wrap (to_ - m)) ?_ (hp := rfl)
  try (first | refine gl tb ?_ | refine gg tb ?_ | refine ll tb ?_ | refine lg tb ?_); repeat ((first | refine G.condT rfl ?_ | refine G.condF rfl ?_ | refine sFa tb ?_ | refine sLd tb ?_ | refine sLa tb ?_ | refine sLen tb ?_ | refine sFd tb ?_ | refine sBd tb ?_ | refine sBa tb ?_); try (first | refine gl tb ?_ | refine gg tb ?_ | refine ll tb ?_ | refine lg tb ?_))
  first | refine G.condD rfl (fun hc => ?_) (fun hc => ?_) | refine G.condN rfl (fun hc => ?_) (fun hc => ?_) | refine G.cond rfl (fun hc => ?_) (fun hc => ?_)
  · have hn : Sc.due o i frm to_ = none := by
      rw [hdue]
      simp only [Bool.or_eq_true, decide_eq_true_eq] at hc
      rw [if_pos]
      rcases hc with h | h
      · exact .inl h
      · by_cases h2 : to_ < -9223372036854775808 + m
        · exact .inl h2
        · rw [wrap_i64 (by omega) (by omega)] at h
          exact .inr h
    try (first | refine gl tb ?_ | refine gg tb ?_ | refine ll tb ?_ | refine lg tb ?_); repeat ((first | refine G.condT rfl ?_ | refine G.condF rfl ?_ | refine sFa tb ?_ | refine sLd tb ?_ | refine sLa tb ?_ | refine sLen tb ?_ | refine sFd tb ?_ | refine sBd tb ?_ | refine sBa tb ?_); try (first | refine gl tb ?_ | refine gg tb ?_ | refine ll tb ?_ | refine lg tb ?_))
    refine G.ret2 rfl rfl rfl rfl rfl ?_
    exact ⟨by rw [hn]; rfl, hx1⟩
  · simp only [Bool.or_eq_false_iff, decide_eq_false_iff_not] at hc
    have hw : IntKind.i64.wrap (to_ - m) = to_ - m := wrap_i64 (by omega) (by omega)
    rw [hw] at hc
    rw [hw]
    try (first | refine gl tb ?_ | refine gg tb ?_ | refine ll tb ?_ | refine lg tb ?_); repeat ((first | refine G.condT rfl ?_ | refine G.condF rfl ?_ | refine sFa tb ?_ | refine sLd tb ?_ | refine sLa tb ?_ | refine sLen tb ?_ | refine sFd tb ?_ | refine sBd tb ?_ | refine sBa tb ?_); try (first | refine gl tb ?_ | refine gg tb ?_ | refine ll tb ?_ | refine lg tb ?_))
    refine sAd tb (r := to_ - m) ?_
    try (first | refine gl tb ?_ | refine gg tb ?_ | refine ll tb ?_ | refine lg tb ?_); repeat ((first | refine G.condT rfl ?_ | refine G.condF rfl ?_ | refine sFa tb ?_ | refine sLd tb ?_ | refine sLa tb ?_ | refine sLen tb ?_ | refine sFd tb ?_ | refine sBd tb ?_ | refine sBa tb ?_); try (first | refine gl tb ?_ | refine gg tb ?_ | refine ll tb ?_ | refine lg tb ?_))
    refine G.ret2 rfl rfl rfl rfl rfl ?_
    exact ⟨by rw [hdue, if_neg (by omega)]; rfl, hx1⟩
end Go.Proofs.YtmkckngecjpklaaDoor
end
section
open Go Go.Vg Go.RowKit Go.Proofs Go.Proofs.YtmkckngecjpklaaDoor
namespace Go.Proofs.YtmkckngecjpklaaDoor.Lab
set_option linter.unusedSimpArgs false

theorem getD_drop (s : List UInt8) (i k : Nat) : (s.drop i).getD k 0 = s.getD (i + k) 0 := by simp [List.getD]
end Go.Proofs.YtmkckngecjpklaaDoor.Lab
end
section
open Go Go.Vg Go.RowKit Go.Proofs Go.Proofs.YtmkckngecjpklaaDoor
namespace Go.Proofs.YtmkckngecjpklaaDoor
set_option linter.unusedSimpArgs false
namespace Lab
def okAt (ls : List Lab) (i : Nat) : Bool := !(!fairB (labAt ls i) || decide ((labAt ls i).2 = []) || decide ((0 : Int) < i) && !Op.bytesLess (labAt ls (i - 1)).1 (labAt ls i).1)
def rightTo (ls : List Lab) (n : Nat) : Prop := ∀ i, i < n → okAt ls i = true
instance (ls : List Lab) (n : Nat) : Decidable (rightTo ls n) := by unfold rightTo; infer_instance
end Lab
end Go.Proofs.YtmkckngecjpklaaDoor
end
section
open Go Go.Vg Go.RowKit Go.Proofs Go.Proofs.YtmkckngecjpklaaDoor
namespace Go.Proofs.YtmkckngecjpklaaDoor
set_option linter.unusedSimpArgs false
namespace Lab
def clipL (x : Lab) : Lab := (x.1, x.2.take 60)
def setS (ls : List Lab) : List Lab := ((ls.take 10).map clipL).foldl setStep []
end Lab
end Go.Proofs.YtmkckngecjpklaaDoor
end
section
open Go Go.Vg Go.RowKit Go.Proofs Go.Proofs.YtmkckngecjpklaaDoor
namespace Go.Proofs.YtmkckngecjpklaaDoor
set_option linter.unusedSimpArgs false

def wx1 : List UInt8 := [40, 46, 42, 41, 45, 40, 46, 42, 41]
def tx1 : Rx.T := .seq [.grp 1 (.seq [.rep 0 (-1) false false (.set [] true)]), .set [(45, 45)] false, .grp 2 (.seq [.rep 0 (-1) false false (.set [] true)])]
theorem comp_wx1 : Rx.comp wx1 = .ok (tx1, 2) := by rfl
def rw0 : Rule := ⟨1, [[97], [98]], [45], wx1, 0, [99], [36, 50, 36, 49]⟩
def wl0 : List Lab.Lab := [([97], [49]), ([98], [50])]
def wl1 : List Lab.Lab := [([97], [49]), ([98], [50]), ([99], [50, 49])]
theorem rule_w0 : ruleR wl0 rw0 tx1 2 = (wl1, true) := by decide +kernel
theorem rule_w1 : ruleR wl1 rw0 tx1 2 = (wl1, true) := by decide +kernel
theorem right_w : rightR rw0 = true := by decide +kernel
theorem rw0_sz : RuleSz rw0 := ⟨by decide, fun s hs => by
  simp only [rw0, List.mem_cons, List.not_mem_nil, or_false] at hs
  rcases hs with rfl | rfl <;> (show _ ≤ _; decide), by decide, by decide, by decide, by decide⟩
theorem rw0_ok (w : World) (sv : Value) (hu : Srcs w rw0 sv) (hT : Tabs w) : RuleOk (fun r ls => ruleR ls r tx1 2) (fun ls => ls = wl0 ∨ ls = wl1) w (rw0, sv) := by
  intro W v cur _ hx hi hv
  refine ⟨rule_okR v sv cur rw0 tx1 2 W hv ?_ ?_ (hu.to hx) rw0_sz comp_wx1 (.inl rfl) ?_ (hT.to hx), fun _ => ?_⟩
  · rcases hi with rfl | rfl <;> (unfold Lab.sortedL; decide +kernel)
  · rcases hi with rfl | rfl <;> decide
  · rcases hi with rfl | rfl <;> decide +kernel
  · rcases hi with rfl | rfl
    · exact .inr (show (ruleR wl0 rw0 tx1 2).1 = wl1 by rw [rule_w0])
    · exact .inr (show (ruleR wl1 rw0 tx1 2).1 = wl1 by rw [rule_w1])
theorem due_w : Sc.due 3 10 0 20 = some 13 := by decide +kernel
set_option maxHeartbeats 1000000 in
theorem wakes_okS (w : World) (hT : Tabs w) : Ret Tryd.prog 9 ⟨[]⟩ w fun r w' => r = .bool true ∧ Ext w w' := by
  refine ret_of_G Tryd.func9 rfl Tryd.ntmps9 rfl ?_
  simp only [argEnv]
  try (first | refine gl tb ?_ | refine gg tb ?_ | refine ll tb ?_ | refine lg tb ?_); repeat ((first | refine G.condT rfl ?_ | refine G.condF rfl ?_ | refine sFa tb ?_ | refine sLd tb ?_ | refine sLa tb ?_ | refine sLen tb ?_ | refine sFd tb ?_ | refine sBd tb ?_ | refine sBa tb ?_); try (first | refine gl tb ?_ | refine gg tb ?_ | refine ll tb ?_ | refine lg tb ?_))
  refine sBs' tb (wl0.map Lab.labC) (fun u1 W1 ho1 hs1 hx1 => ?_) (hkl := Lab.labLen wl0)
  try (first | refine gl tb ?_ | refine gg tb ?_ | refine ll tb ?_ | refine lg tb ?_); repeat ((first | refine G.condT rfl ?_ | refine G.condF rfl ?_ | refine sFa tb ?_ | refine sLd tb ?_ | refine sLa tb ?_ | refine sLen tb ?_ | refine sFd tb ?_ | refine sBd tb ?_ | refine sBa tb ?_); try (first | refine gl tb ?_ | refine gg tb ?_ | refine ll tb ?_ | refine lg tb ?_))
  refine sBs' tb ([[97], [98]].map strC) (fun u2 W2 ho2 hs2 hx2 => ?_) (hkl := by simp [strC])
  obtain ⟨a2, c2, rfl, -⟩ := ho2.sli.len
  try (first | refine gl tb ?_ | refine gg tb ?_ | refine ll tb ?_ | refine lg tb ?_); repeat ((first | refine G.condT rfl ?_ | refine G.condF rfl ?_ | refine sFa tb ?_ | refine sLd tb ?_ | refine sLa tb ?_ | refine sLen tb ?_ | refine sFd tb ?_ | refine sBd tb ?_ | refine sBa tb ?_); try (first | refine gl tb ?_ | refine gg tb ?_ | refine ll tb ?_ | refine lg tb ?_))
  refine sBs' tb ([(rw0, Value.slice a2 2 c2)].map relC2) (fun u3 W3 ho3 hs3 hx3 => ?_) (hfill := by kernel_rfl) (hkl := by simp [relC2, relC])
  try (first | refine gl tb ?_ | refine gg tb ?_ | refine ll tb ?_ | refine lg tb ?_); repeat ((first | refine G.condT rfl ?_ | refine G.condF rfl ?_ | refine sFa tb ?_ | refine sLd tb ?_ | refine sLa tb ?_ | refine sLen tb ?_ | refine sFd tb ?_ | refine sBd tb ?_ | refine sBa tb ?_); try (first | refine gl tb ?_ | refine gg tb ?_ | refine ll tb ?_ | refine lg tb ?_))
  have hx13 := hx2.trans hx3
  have hx03 := hx1.trans hx13
  have hu2 : Srcs W3 rw0 (.slice a2 2 c2) := (ho2.to hx3).sli
  have hrel := relabel_ok (fun r ls => ruleR ls r tx1 2) (fun ls => ls = wl0 ∨ ls = wl1) u1 u3 wl0 [(rw0, .slice a2 2 c2)] W3 (ho1.to hx13).sli (.inl rfl) (by decide) ho3.sli (fun p hp => by
      simp only [List.mem_cons, List.not_mem_nil, or_false] at hp
      subst hp
      exact ⟨hu2, rw0_sz, rw0_ok W3 _ hu2 (hT.to hx03)⟩) (hT.to hx03)
  refine sCall c13 (hrel) ?_
  rintro _ W4 ⟨u, rfl, hl4, hx4⟩
  have e : relF (fun r ls => ruleR ls r tx1 2) ([(rw0, Value.slice a2 2 c2)].map (·.1)) wl0 = (wl1, true) := by
    simp only [List.map_cons, List.map_nil, relF, right_w, if_true, rule_w0]
  simp only [e] at hl4 ⊢
  try (first | refine gl tb ?_ | refine gg tb ?_ | refine ll tb ?_ | refine lg tb ?_); repeat ((first | refine G.condT rfl ?_ | refine G.condF rfl ?_ | refine sFa tb ?_ | refine sLd tb ?_ | refine sLa tb ?_ | refine sLen tb ?_ | refine sFd tb ?_ | refine sBd tb ?_ | refine sBa tb ?_); try (first | refine gl tb ?_ | refine gg tb ?_ | refine ll tb ?_ | refine lg tb ?_))
  refine sCall c7 (due_ok (S []) (.slice none 0 0) (S []) 3 10 0 20 W4 (by decide) (by decide) (by decide)) ?_
  rintro _ W5 ⟨rfl, hx5⟩
  rw [due_w]
  simp only [dueV]
  have hl5 := hl4.to hx5
  have hg2 : (wl1.map Lab.labC)[2]? = some (Lab.labC ([99], [50, 49])) := rfl
  try (first | refine gl tb ?_ | refine gg tb ?_ | refine ll tb ?_ | refine lg tb ?_); repeat ((first | refine G.condT rfl ?_ | refine G.condF rfl ?_ | refine sFa tb ?_ | refine sLd tb ?_ | refine sLa tb ?_ | refine sLen tb ?_ | refine sFd tb ?_ | refine sBd tb ?_ | refine sIa tb 2 ?_); try (first | refine gl tb ?_ | refine gg tb ?_ | refine ll tb ?_ | refine lg tb ?_))
  refine G.ret1 rfl rfl rfl rfl ?_
  exact ⟨rfl, (hx03.trans hx4).trans hx5⟩
end Go.Proofs.YtmkckngecjpklaaDoor
end
section
open Go Go.Vg Go.RowKit Go.Proofs Go.Proofs.YtmkckngecjpklaaDoor
namespace Go.Proofs.YtmkckngecjpklaaDoor
set_option linter.unusedSimpArgs false

abbrev staleB : Nat := 9218868437227405314
theorem isStale_ok (b : Nat) (w : World) : Ret Tryd.prog 15 ⟨[Fl b]⟩ w fun r w' => r = .bool (decide ((b : Int) = 9218868437227405314)) ∧ w' = w := by
  refine ret_of_G Tryd.func15 rfl Tryd.ntmps15 rfl ?_
  simp only [argEnv]
  try (first | refine gl tb ?_ | refine gg tb ?_ | refine ll tb ?_ | refine lg tb ?_); repeat ((first | refine G.condT rfl ?_ | refine G.condF rfl ?_ | refine sFa tb ?_ | refine sLd tb ?_ | refine sLa tb ?_ | refine sLen tb ?_ | refine sFd tb ?_ | refine sBd tb ?_ | refine sBa tb ?_); try (first | refine gl tb ?_ | refine gg tb ?_ | refine ll tb ?_ | refine lg tb ?_))
  refine GL.cons (Step.ext rfl rfl (by repeat (first | exact OpL.nil | refine OpL.cons (Op1.of rfl (by first | exact fun _ => rfl | exact fun h => h | exact fun h => bL h | exact fun h => bL (bL h) | exact fun h => bL (bL (bL h)))) ?_)) (run_fbits Tryd.func18 (by kernel_rfl) (by kernel_rfl) (by kernel_rfl) (by kernel_rfl) b _) rfl ?_)
  try (first | refine gl tb ?_ | refine gg tb ?_ | refine ll tb ?_ | refine lg tb ?_); repeat ((first | refine G.condT rfl ?_ | refine G.condF rfl ?_ | refine sFa tb ?_ | refine sLd tb ?_ | refine sLa tb ?_ | refine sLen tb ?_ | refine sFd tb ?_ | refine sBd tb ?_ | refine sBa tb ?_); try (first | refine gl tb ?_ | refine gg tb ?_ | refine ll tb ?_ | refine lg tb ?_))
  refine G.ret1 rfl rfl rfl rfl ?_
  exact ⟨rfl, rfl⟩
theorem stale_ok (w : World) : Ret Tryd.prog 17 ⟨[]⟩ w fun r w' => r = Fl staleB ∧ w' = w := by
  refine ret_of_G Tryd.func17 rfl Tryd.ntmps17 rfl ?_
  simp only [argEnv]
  try (first | refine gl tb ?_ | refine gg tb ?_ | refine ll tb ?_ | refine lg tb ?_); repeat ((first | refine G.condT rfl ?_ | refine G.condF rfl ?_ | refine sFa tb ?_ | refine sLd tb ?_ | refine sLa tb ?_ | refine sLen tb ?_ | refine sFd tb ?_ | refine sBd tb ?_ | refine sBa tb ?_); try (first | refine gl tb ?_ | refine gg tb ?_ | refine ll tb ?_ | refine lg tb ?_))
  refine GL.cons (Step.ext rfl rfl (by repeat (first | exact OpL.nil | refine OpL.cons (Op1.of rfl (by first | exact fun _ => rfl | exact fun h => h | exact fun h => bL h | exact fun h => bL (bL h) | exact fun h => bL (bL (bL h)))) ?_)) (run_ofbits Tryd.func16 (by kernel_rfl) (by kernel_rfl) (by kernel_rfl) (by kernel_rfl) staleB _) rfl ?_)
  try (first | refine gl tb ?_ | refine gg tb ?_ | refine ll tb ?_ | refine lg tb ?_); repeat ((first | refine G.condT rfl ?_ | refine G.condF rfl ?_ | refine sFa tb ?_ | refine sLd tb ?_ | refine sLa tb ?_ | refine sLen tb ?_ | refine sFd tb ?_ | refine sBd tb ?_ | refine sBa tb ?_); try (first | refine gl tb ?_ | refine gg tb ?_ | refine ll tb ?_ | refine lg tb ?_))
  refine G.ret1 rfl rfl rfl rfl ?_
  exact ⟨rfl, rfl⟩
def u64C (n : Nat) : List Value := [.int .u64 (n : Int)]
set_option maxHeartbeats 1000000 in
theorem stale_law (v : Value) (l : List Nat) (w : World) (hv : Sli w v 1 (l.map u64C)) (hT : Tabs w) :
    Ret Tryd.prog 5 ⟨[v]⟩ w fun r w' => r = .bool true ∧ Ext w w' := by
  refine ret_of_G Tryd.func5 rfl Tryd.ntmps5 rfl ?_
  simp only [argEnv]
  try (first | refine gl tb ?_ | refine gg tb ?_ | refine ll tb ?_ | refine lg tb ?_); repeat ((first | refine G.condT rfl ?_ | refine G.condF rfl ?_ | refine sFa tb ?_ | refine sLd tb ?_ | refine sLa tb ?_ | refine sLen tb ?_ | refine sFd tb ?_ | refine sBd tb ?_ | refine sBa tb ?_); try (first | refine gl tb ?_ | refine gg tb ?_ | refine ll tb ?_ | refine lg tb ?_))
  refine (G.loop (fun k : Nat => [(0, none, v), (3, none, .int .i64 k)]) (fun k W => Ext w W ∧ k ≤ l.length ∧ k ≤ 200) (fun k => l.length - k) 0 (by repeat (first | exact Sub.nil _ | refine Sub.cons rfl ?_)) ⟨Ext.refl _, Nat.zero_le _, Nat.zero_le _⟩ ?_)
  rintro k W ⟨hx, hk, hk2⟩
  have hvW := hv.to hx
  try (first | refine gl tb ?_ | refine gg tb ?_ | refine ll tb ?_ | refine lg tb ?_); repeat ((first | refine G.condT rfl ?_ | refine G.condF rfl ?_ | refine sFa tb ?_ | refine sLd tb ?_ | refine sLa tb ?_ | refine sLen tb ?_ | refine sFd tb ?_ | refine sBd tb ?_ | refine sBa tb ?_); try (first | refine gl tb ?_ | refine gg tb ?_ | refine ll tb ?_ | refine lg tb ?_))
  rw [List.length_map]
  try (first | refine gl tb ?_ | refine gg tb ?_ | refine ll tb ?_ | refine lg tb ?_); repeat ((first | refine G.condT rfl ?_ | refine G.condF rfl ?_ | refine sFa tb ?_ | refine sLd tb ?_ | refine sLa tb ?_ | refine sLen tb ?_ | refine sFd tb ?_ | refine sBd tb ?_ | refine sBa tb ?_); try (first | refine gl tb ?_ | refine gg tb ?_ | refine ll tb ?_ | refine lg tb ?_))
  first | refine G.condD rfl (fun hc => ?_) (fun hc => ?_) | refine G.condN rfl (fun hc => ?_) (fun hc => ?_) | refine G.cond rfl (fun hc => ?_) (fun hc => ?_)
  · simp only [Bool.and_eq_true, decide_eq_true_eq] at hc
    have hlt : k < l.length := by omega
    have hget : (l.map u64C)[k]? = some (u64C l[k]) := by simp [hlt]
    generalize l[k] = b at hget
    try (first | refine gl tb ?_ | refine gg tb ?_ | refine ll tb ?_ | refine lg tb ?_); repeat ((first | refine G.condT rfl ?_ | refine G.condF rfl ?_ | refine sFa tb ?_ | refine sLd tb ?_ | refine sLa tb ?_ | refine sLen tb ?_ | refine sFd tb ?_ | refine sBd tb ?_ | refine sBa tb ?_); try (first | refine gl tb ?_ | refine gg tb ?_ | refine ll tb ?_ | refine lg tb ?_))
    refine G.regionM [(0, true), (1, true), (2, true), (3, true), (6, true), (7, true), (8, true), (9, true), (10, true), (4, false), (5, false), (11, true)] (Ext W) (by kernel_rfl) (by kernel_rfl) rfl mixed (Ext.drew W) rfl ?_
    try (refine mm tb ?_); repeat ((first | refine dFa tb ?_ | refine dLd tb ?_ | refine dLa tb ?_ | refine dLen tb ?_ | refine dFd tb ?_ | refine dIa tb k ?_); try (refine mm tb ?_))
    refine GM.eff (Step.ext rfl rfl (by repeat (first | exact OpL.nil | refine OpL.cons (Op1.of rfl (by first | exact fun _ => rfl | exact fun h => h | exact fun h => bL h | exact fun h => bL (bL h) | exact fun h => bL (bL (bL h)))) ?_)) (run_ofbits Tryd.func16 (by kernel_rfl) (by kernel_rfl) (by kernel_rfl) (by kernel_rfl) b _) rfl ⟨Ext.drew W, ?_⟩)
    try (refine mm tb ?_); repeat ((first | refine dFa tb ?_ | refine dLd tb ?_ | refine dLa tb ?_ | refine dLen tb ?_ | refine dFd tb ?_); try (refine mm tb ?_))
    refine GM.eff (Step.callF rfl rfl rfl c15 rfl (isStale_ok b W.drew) ?_)
    rintro _ W2 ⟨rfl, rfl⟩
    refine ⟨Ext.drew W, ?_⟩
    try (refine mm tb ?_); repeat ((first | refine dFa tb ?_ | refine dLd tb ?_ | refine dLa tb ?_ | refine dLen tb ?_ | refine dFd tb ?_); try (refine mm tb ?_))
    refine GM.nil ?_
    first | refine G.condD rfl (fun hc => ?_) (fun hc => ?_) | refine G.condN rfl (fun hc => ?_) (fun hc => ?_) | refine G.cond rfl (fun hc => ?_) (fun hc => ?_)
    · exfalso; simp at hc
    try (first | refine gl tb ?_ | refine gg tb ?_ | refine ll tb ?_ | refine lg tb ?_); repeat ((first | refine G.condT rfl ?_ | refine G.condF rfl ?_ | refine sFa tb ?_ | refine sLd tb ?_ | refine sLa tb ?_ | refine sLen tb ?_ | refine sFd tb ?_ | refine sBd tb ?_ | refine sBa tb ?_); try (first | refine gl tb ?_ | refine gg tb ?_ | refine ll tb ?_ | refine lg tb ?_))
    refine sAd tb ?_
    try (first | refine gl tb ?_ | refine gg tb ?_ | refine ll tb ?_ | refine lg tb ?_); repeat ((first | refine G.condT rfl ?_ | refine G.condF rfl ?_ | refine sFa tb ?_ | refine sLd tb ?_ | refine sLa tb ?_ | refine sLen tb ?_ | refine sFd tb ?_ | refine sBd tb ?_ | refine sBa tb ?_); try (first | refine gl tb ?_ | refine gg tb ?_ | refine ll tb ?_ | refine lg tb ?_))
    exact G.lp (x := k) (k + 1) (by repeat (first | exact Sub.nil _ | refine Sub.cons rfl ?_)) ⟨hx.trans (Ext.drew W), by omega, by omega⟩ (by omega)
  · try (first | refine gl tb ?_ | refine gg tb ?_ | refine ll tb ?_ | refine lg tb ?_); repeat ((first | refine G.condT rfl ?_ | refine G.condF rfl ?_ | refine sFa tb ?_ | refine sLd tb ?_ | refine sLa tb ?_ | refine sLen tb ?_ | refine sFd tb ?_ | refine sBd tb ?_ | refine sBa tb ?_); try (first | refine gl tb ?_ | refine gg tb ?_ | refine ll tb ?_ | refine lg tb ?_))
    refine sCall c17 (stale_ok W) ?_
    rintro _ W2 ⟨rfl, hw2⟩
    obtain rfl : W = W2 := hw2.symm
    try (first | refine gl tb ?_ | refine gg tb ?_ | refine ll tb ?_ | refine lg tb ?_); repeat ((first | refine G.condT rfl ?_ | refine G.condF rfl ?_ | refine sFa tb ?_ | refine sLd tb ?_ | refine sLa tb ?_ | refine sLen tb ?_ | refine sFd tb ?_ | refine sBd tb ?_ | refine sBa tb ?_); try (first | refine gl tb ?_ | refine gg tb ?_ | refine ll tb ?_ | refine lg tb ?_))
    refine GL.cons (Step.ext rfl rfl (by repeat (first | exact OpL.nil | refine OpL.cons (Op1.of rfl (by first | exact fun _ => rfl | exact fun h => h | exact fun h => bL h | exact fun h => bL (bL h) | exact fun h => bL (bL (bL h)))) ?_)) (run_fbits Tryd.func18 (by kernel_rfl) (by kernel_rfl) (by kernel_rfl) (by kernel_rfl) staleB _) rfl ?_)
    try (first | refine gl tb ?_ | refine gg tb ?_ | refine ll tb ?_ | refine lg tb ?_); repeat ((first | refine G.condT rfl ?_ | refine G.condF rfl ?_ | refine sFa tb ?_ | refine sLd tb ?_ | refine sLa tb ?_ | refine sLen tb ?_ | refine sFd tb ?_ | refine sBd tb ?_ | refine sBa tb ?_); try (first | refine gl tb ?_ | refine gg tb ?_ | refine ll tb ?_ | refine lg tb ?_))
    refine GL.cons (Step.on rfl (by simp) (Step.callO rfl rfl (by repeat (first | exact OpL.nil | refine OpL.cons (Op1.of rfl (by first | exact fun _ => rfl | exact fun _ => by simp [cv])) ?_)) c15 rfl (isStale_ok staleB W) ?_))
    rintro _ W3 ⟨rfl, hw3⟩
    obtain rfl : W = W3 := hw3.symm
    try (first | refine gl tb ?_ | refine gg tb ?_ | refine ll tb ?_ | refine lg tb ?_); repeat ((first | refine G.condT rfl ?_ | refine G.condF rfl ?_ | refine sFa tb ?_ | refine sLd tb ?_ | refine sLa tb ?_ | refine sLen tb ?_ | refine sFd tb ?_ | refine sBd tb ?_ | refine sBa tb ?_); try (first | refine gl tb ?_ | refine gg tb ?_ | refine ll tb ?_ | refine lg tb ?_))
    refine GL.cons (Step.on rfl (by simp) (Step.callO rfl rfl (by repeat (first | exact OpL.nil | refine OpL.cons (Op1.of rfl (by first | exact fun _ => rfl | exact fun _ => by simp [cv])) ?_)) c9 rfl (wakes_okS W (hT.to hx)) ?_))
    rintro _ W4 ⟨rfl, hx4⟩
    try (first | refine gl tb ?_ | refine gg tb ?_ | refine ll tb ?_ | refine lg tb ?_); repeat ((first | refine G.condT rfl ?_ | refine G.condF rfl ?_ | refine sFa tb ?_ | refine sLd tb ?_ | refine sLa tb ?_ | refine sLen tb ?_ | refine sFd tb ?_ | refine sBd tb ?_ | refine sBa tb ?_); try (first | refine gl tb ?_ | refine gg tb ?_ | refine ll tb ?_ | refine lg tb ?_))
    refine G.ret1 rfl rfl rfl rfl ?_
    exact ⟨rfl, hx.trans hx4⟩
end Go.Proofs.YtmkckngecjpklaaDoor
end
section
open Go Go.Vg Go.RowKit Go.Proofs Go.Proofs.YtmkckngecjpklaaDoor
namespace Go.Proofs.YtmkckngecjpklaaDoor
set_option linter.unusedSimpArgs false
open Go.Lib Go.Shelf Go.ChangeShapes Go.WideShapes Go.ChangeAt
theorem wf_u64 {n : Int} (h : (Lit.int .u64 n).wf = true) : 0 ≤ n := by
  have e1 : IntKind.u64.min = 0 := by decide
  simp only [Lit.wf, Bool.and_eq_true, decide_eq_true_eq, e1] at h
  exact h.1
/-- bits that came in -/
theorem open_u64s {H : Type} {enc : TypeId × Value → H} {w : World} {sp : Nat → Bool} {hd : Bool} {b : Nat} {v : Value} {d : DataW H} {p : List MemPlace}
    (hval : OkW Tryd.prog w b 44 v) (h : DataW.Trod enc Tryd.prog w 0 sp hd 44 v d p) : ∃ l : List Nat, Sli w v 1 (l.map u64C) ∧ ∀ x ∈ l, True := by
  refine open_rows (t := 44) (e := 48) u64C (fun _ => True) (tb.ok _ _ rfl) (by kernel_rfl) (fun n cs x hx => ?_) hval h
  obtain ⟨m, ha, hla⟩ := open_int1 (tb.ok _ _ rfl) hx
  have h0 := wf_u64 hla
  exact ⟨m.toNat, by rw [ha]; show _ = [Value.int .u64 ((m.toNat : Nat) : Int)]; rw [Int.toNat_of_nonneg h0], trivial⟩
end Go.Proofs.YtmkckngecjpklaaDoor
end
section
open Go Go.Vg Go.RowKit Go.Proofs Go.Proofs.YtmkckngecjpklaaDoor
namespace Go.Proofs.YtmkckngecjpklaaDoor
set_option linter.unusedSimpArgs false
open Go.Lib Go.Shelf Go.ChangeShapes Go.WideShapes Go.ChangeAt

set_option maxRecDepth 100000 in
theorem contract_scrapeStale (H : Type) (enc : TypeId × Value → H) (W : World) (base : Nat) (args : Array Value) (ds gs : List (DataW H)) (before : List MemPlace)
    (hval : ∀ (j : Nat) t v, Tryd.f5.params[j]? = some t → args[j]? = some v → Value.okWide Tryd.prog W .any base t v)
    (hW : DataW.Whole enc Tryd.prog Tryd.f5.params.toList Rows.scrapeStaleSpec.vars false W args.toList ds gs before) (hL : laidMetH Tryd.prog Rows.scrapeStaleRow.laid W) :
    Calls Tryd.prog 5 args W fun e W' => ∃ v, e = .returned v ∧ Rows.scrapeStaleSpec.post enc Tryd.prog Tryd.f5 false true false false W args v W' := by
  have hW' := hW
  obtain ⟨p, q, hA0, hV, rfl, hfz, hnd⟩ := hW
  have hA : DataW.TrodAll enc Tryd.prog W 0 (fun _ => true) true Tryd.f5.params.toList args.toList ds p := hA0
  rw [Tryd.params5] at hA hval
  obtain ⟨v0, vs0, d0, ds0, p0, q0, hargs, rfl, rfl, h0, r0⟩ := trodAll_cons hA
  obtain ⟨rfl, rfl, rfl⟩ := trodAll_nil r0
  obtain rfl : args = #[v0] := by cases args; simp_all
  have k0 := OkW.mk (hval 0 _ v0 rfl rfl)
  obtain ⟨x0, hx0, hz0⟩ := open_u64s k0 h0
  refine Calls.mono (stale_law v0 x0 W hx0 (tabs hL)) ?_
  rintro e W' ⟨v, rfl, rfl, hx⟩
  exact ⟨_, rfl, law_post laidOut (by kernel_rfl) (tb := 4) rfl (tb.ok _ _ rfl) rfl hW' rfl hx⟩
theorem reads_scrapeStale (os : Os) {H : Type} (enc : TypeId × Value → H) : ∃ places, DataW.whole enc Tryd.prog ((laidWorld os).forCall (fun _ _ => 0) ⟨#[], #[.slice none 0 0], []⟩).memory Tryd.f5.params.toList Rows.scrapeStaleSpec.vars false #[.slice none 0 0].toList 8 = some ([.nil], [], places) :=
  ⟨[], by kernel_rfl⟩
set_option maxRecDepth 100000 in
theorem lifted_scrapeStale (os : Os) (started : os.Started) (H : Type) (enc : TypeId × Value → H) (F : Stop.Interp) :
    ReturnsInHanded {} Tryd.checked os 5 .any ((OpenSpec.ofChange Rows.scrapeStaleSpec).preRow enc Tryd.prog Tryd.f5 Rows.scrapeStaleRow.domain false Rows.scrapeStaleRow.laid) (((OpenSpec.ofChange Rows.scrapeStaleSpec).at F).post enc Tryd.prog Tryd.f5 false true false false) := by
  obtain ⟨places, hx⟩ := reads_scrapeStale os enc
  refine returnsInHanded_of_row (C := Tryd.checked) (s := OpenSpec.ofChange Rows.scrapeStaleSpec) own started (by kernel_rfl) Tryd.func5
    (witness_row_at (enc := enc) (C := Tryd.checked) false (laidWorld os) #[.slice none 0 0] rfl (by kernel_rfl) (by kernel_rfl) (by kernel_rfl)
      (OpenSpec.preRow_of_cond 8 hx (by kernel_rfl) (fun k hk => by cases hk) (by kernel_rfl) (laid_met os _))) ?_
  intro W base args ds gs before hval hW _ _ _ hL _ _
  exact contract_scrapeStale H enc W base args ds gs before hval hW hL
theorem said_scrapeStale : Rows.ScrapeStaleSaid :=
  OpenClaim.holds_of_cond 5 Tryd.f5 rfl rfl rfl rfl rfl rfl rfl ⟨rfl, rfl, rfl, rfl, rfl⟩ rfl rfl rfl rfl rfl (by kernel_rfl) Tryd.func5 (by kernel_rfl)
    (of_decide_eq_true (by kernel_rfl)) (by unfold Func.isWrapper; first | (rw [if_pos (by decide +kernel)]; kernel_rfl) | (rw [if_neg (by decide +kernel)]; exact ⟨rfl, rfl⟩))
    (fun os started H enc _ F => by rw [OpenClaim.pre_eq_preRow]; exact lifted_scrapeStale os started H enc F)
theorem plain_scrapeStale (f : FuncId) (fn : Func) (hf : Tryd.pinned.checked.prog.funcNamed "vigil/vigillaw12.ScrapeStale" = some f) (hfn : Tryd.pinned.checked.prog.funcs[f]? = some fn) :
    true = Tryd.pinned.checked.prog.looks [] ∧ ∀ (j : Nat) t, fn.params[j]? = some t → Tryd.pinned.checked.prog.wantsStandIn t = false := by
  obtain rfl : f = 5 := Option.some.inj ((show Tryd.prog.funcNamed "vigil/vigillaw12.ScrapeStale" = some 5 by kernel_rfl).symm.trans hf) |>.symm
  obtain rfl : fn = Tryd.f5 := (Option.some.inj (Tryd.func5.symm.trans hfn)).symm
  refine ⟨by kernel_rfl, fun j t ht => ?_⟩
  rw [Tryd.params5] at ht
  have hm : t ∈ #[44] := Array.mem_of_getElem? ht
  simp only [List.mem_toArray, List.mem_cons, List.not_mem_nil, or_false] at hm
  rcases hm with rfl
  · exact (show Tryd.prog.wantsStandIn 44 = false by kernel_rfl)
/-- ScrapeStale: of any bits, just the marker of an end is told to be one, and what came in stays as it was. -/
theorem ScrapeStale_holds : Rows.ScrapeStaleCardSaid :=
  Claim7.holds_tied_plain_at .later [] _ _ _ _ said_scrapeStale (fun _ h => by cases h) (by kernel_rfl) (fun _ h => by cases h) scrapeStale_row_tie rfl ⟨rfl, rfl⟩ (by kernel_rfl) rfl plain_scrapeStale (by kernel_rfl)
end Go.Proofs.YtmkckngecjpklaaDoor
end
