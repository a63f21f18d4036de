/- Part of the proof of a statement about the given program. -/
import Derived.Test.YtbnckhfkkoncbaaP02
import Derived.Recover
import Derived.Lib.OthersKept
import Derived.Laws.RangeString
import Derived.Laws.Runes
set_option linter.unusedSimpArgs false
set_option linter.unusedVariables false
set_option linter.unusedSectionVars false
section
open Go Go.Vg Go.RowKit Go.Proofs Go.Proofs.Ytbnckhfkkoncbaa
namespace Go.Proofs.Ytbnckhfkkoncbaa

/-- while the element at j sinks from place i -/
structure Ins (K : Nat → Int) (a i j : Nat) (xs : List Nat) : Prop where
  rest : ∀ p q, a ≤ p → p < q → q ≤ i → p ≠ j → q ≠ j → K (at_ xs p) ≤ K (at_ xs q)
  up : ∀ q, j < q → q ≤ i → K (at_ xs j) ≤ K (at_ xs q)
theorem Ins.start {K : Nat → Int} {a i : Nat} {xs : List Nat} (h : Srt K a i xs) : Ins K a i i xs :=
  ⟨fun p q hp hpq hq _ hqi => h p q hp hpq (by omega), fun q h1 h2 => by omega⟩
theorem Ins.done {K : Nat → Int} {a i j : Nat} {xs : List Nat} (h : Ins K a i j xs) (hj : a ≤ j) (hd : j = a ∨ K (at_ xs (j - 1)) ≤ K (at_ xs j)) : Srt K a (i + 1) xs := by
  intro p q hp hpq hq
  by_cases h1 : p = j
  · subst h1; exact h.up q hpq (by omega)
  · by_cases h2 : q = j
    · subst h2
      rcases hd with hd | hd
      · omega
      · by_cases h3 : p = q - 1
        · subst h3; exact hd
        · exact Int.le_trans (h.rest p (q - 1) hp (by omega) (by omega) h1 (by omega)) hd
    · exact h.rest p q hp hpq (by omega) h1 h2
theorem Ins.step {K : Nat → Int} {a i j : Nat} {xs : List Nat} (h : Ins K a i j xs) (hj : a < j) (hji : j ≤ i) (hi : i < xs.length) (hlt : K (at_ xs j) < K (at_ xs (j - 1))) : Ins K a i (j - 1) (swp xs j (j - 1)) := by
  have hs := at_swp (xs := xs) (i := j) (j := j - 1) (by omega) (by omega)
  constructor
  · intro p q hp hpq hq h1 h2
    rw [hs, hs, if_neg h1, if_neg h2]
    by_cases h3 : p = j
    · rw [if_pos h3, if_neg (by omega)]
      exact h.rest (j - 1) q (by omega) (by omega) hq (by omega) (by omega)
    · rw [if_neg h3]
      by_cases h4 : q = j
      · rw [if_pos h4]
        exact h.rest p (j - 1) hp (by omega) (by omega) h3 (by omega)
      · rw [if_neg h4]
        exact h.rest p q hp hpq hq h3 h4
  · intro q h1 h2
    rw [hs, hs, if_pos rfl, if_neg (by omega)]
    by_cases h4 : q = j
    · rw [if_pos h4]; exact Int.le_of_lt hlt
    · rw [if_neg h4]; exact h.up q (by omega) h2
theorem set2 (xs : List Nat) (i j : Nat) (x y : Nat) : ((xs.map fC).set i (fC x)).set j (fC y) = ((xs.set i x).set j y).map fC := by simp
set_option maxHeartbeats 4000000 in
theorem insN_ok (K : Nat → Int) (a b : Nat) (B : Nat) (v : Value) (xs : List Nat) (w : World) (ho : FlO w B v xs) (hB : B ≤ w.heap.size) (hK : Good K xs) (hab : a ≤ b) (hb : b ≤ xs.length) (hlen : xs.length ≤ 1000) :
    Ret Try.prog 103 ⟨[v, .int .i64 a, .int .i64 b, CF]⟩ w fun _ w' => ∃ ys, FlO w' B v ys ∧ Trn a b xs ys ∧ Srt K a b ys ∧ Below B w w' ∧ B ≤ w'.heap.size := by
  refine ret_of_G Try.func103 rfl Try.ntmps103 rfl ?_
  simp only [argEnv]
  refine rn ?_
  refine sAd tb (r := ((a + 1 : Nat) : Int)) ?_
  refine rn ?_
  refine (G.loop (fun x : Nat × List Nat => [(0, none, v), (1, none, .int .i64 a), (2, none, .int .i64 b), (3, none, CF), (8, none, .int .i64 x.1)]) (fun x W => Below B w W ∧ B ≤ W.heap.size ∧ a < x.1 ∧ (x.1 ≤ b ∨ x.1 = a + 1) ∧ FlO W B v x.2 ∧ Trn a b xs x.2 ∧ Srt K a x.1 x.2) (fun x => b - x.1) (a + 1, xs) (by repeat (first | exact Sub.nil _ | refine Sub.cons rfl ?_)) ⟨Below.refl _ _, hB, by show a < a + 1; omega, .inr rfl, ho, Trn.refl _ _ _, fun i j h1 h2 h3 => by have h3 : j < a + 1 := h3; omega⟩ ?_)
  rintro ⟨i, ys⟩ W ⟨hb1, hBW, hai, hib, hoy, htr, hsr⟩
  simp only at hai hib hoy htr hsr ⊢
  clear ho hB
  refine rn ?_
  first | refine G.condD rfl (fun hc => ?_) (fun hc => ?_) | refine G.condN rfl (fun hc => ?_) (fun hc => ?_) | refine G.cond rfl (fun hc => ?_) (fun hc => ?_)
  · have hilt : i < b := by omega
    refine rn ?_
    refine (G.loop (fun x : Nat × List Nat => [(0, none, v), (1, none, .int .i64 a), (2, none, .int .i64 b), (3, none, CF), (8, none, .int .i64 i), (9, none, .int .i64 x.1)]) (fun x W => Below B w W ∧ B ≤ W.heap.size ∧ a ≤ x.1 ∧ x.1 ≤ i ∧ FlO W B v x.2 ∧ Trn a b xs x.2 ∧ Ins K a i x.1 x.2) (fun x => x.1) (i, ys) (by repeat (first | exact Sub.nil _ | refine Sub.cons rfl ?_)) ⟨hb1, hBW, by show a ≤ i; omega, Nat.le_refl _, hoy, htr, Ins.start hsr⟩ ?_)
    clear hb1 hBW hoy htr hsr W
    rintro ⟨j, zs⟩ W ⟨hb1, hBW, haj, hji, hoz, htr, hins⟩
    simp only at haj hji hoz htr hins ⊢
    have hzl := htr.len
    have hzm : (zs.map fC).length = zs.length := List.length_map ..
    have hgz := hK.trn htr
    have hs := hoz.sli
    have hgj : (zs.map fC)[j]? = some [Fl (at_ zs j)] := by rw [List.getElem?_map, at_get (by omega)]; rfl
    have hod := hoz.to (Ext.drew W)
    have hbd := hb1.ext (Ext.drew W) hBW
    have hBd : B ≤ W.drew.heap.size := Nat.le_trans hBW (Ext.drew W).size
    refine rn ?_
    by_cases hja : a < j
    · have hgp : (zs.map fC)[j - 1]? = some [Fl (at_ zs (j - 1))] := by rw [List.getElem?_map, at_get (by omega)]; rfl
      have hcmp := fun W' => cmpQ_ok (at_ zs j) (at_ zs (j - 1)) _ _ (hgz.at (by omega)) (hgz.at (by omega)) W'
      refine G.regionM [(0, true), (1, true), (2, true), (3, true), (4, true), (5, true), (6, true), (7, true), (8, true), (9, true), (10, true), (11, true), (12, true), (13, true), (14, false), (15, true), (16, true)] (Ext W) (by kernel_rfl) (by kernel_rfl) rfl mixed (Ext.drew W) rfl ?_
      refine rd ?_
      rw [decide_eq_true (show ((a : Nat) : Int) < j by omega)]
      refine rd ?_
      refine dIa tb j ?_ (hj := fun _ => ⟨rfl, by rw [hzm]; omega⟩)
      refine rd ?_
      refine dAd tb (r := ((j - 1 : Nat) : Int)) ?_ (hp := (wrap_i64 (n := ((j : Nat) : Int) - 1) (by omega) (by omega)).trans (by omega))
      refine dIa tb (j - 1) ?_ (hj := fun _ => ⟨rfl, by rw [hzm]; omega⟩)
      refine rd ?_
      refine GM.eff (Step.callXC rfl (Op1.of rfl (by first | exact fun _ => rfl | exact fun h => h | exact fun h => bL h | exact fun h => bL (bL h) | exact fun h => bL (bL (bL h)))) rfl (by repeat (first | exact OpL.nil | refine OpL.cons (Op1.of rfl (by first | exact fun _ => rfl | exact fun h => h | exact fun h => bL h | exact fun h => bL (bL h) | exact fun h => bL (bL (bL h)))) ?_)) c50 rfl (fun _ => hcmp _) ?_ (vs := [Fl (at_ zs j), Fl (at_ zs (j - 1))]))
      intro w1 hx1
      have hx1 := (Ext.drew W).trans hx1
      refine ⟨hx1, ?_⟩
      refine rd ?_
      refine GM.nil ?_
      have hoz1 := hoz.to hx1
      have hb11 := hb1.ext hx1 hBW
      have hBz1 := Nat.le_trans hBW hx1.size
      clear hod hbd hBd hcmp
      by_cases hlt : K (at_ zs j) < K (at_ zs (j - 1))
      · rw [decide_eq_true ((cmpI_lt _ _).2 hlt)]
        refine rn ?_
        refine G.regionG (fun _ => True) mixed trivial ?_
        have ho1 := hoz1.to (Ext.drew w1)
        have hbx1 := hb11.ext (Ext.drew w1) hBz1
        have hBz : B ≤ w1.drew.heap.size := Nat.le_trans hBz1 (Ext.drew w1).size
        generalize w1.drew = w2 at ho1 hbx1 hBz ⊢
        have hs2 := ho1.sli
        refine GD.steps ([(0, true), (1, true), (2, true), (3, true), (4, true), (5, true), (6, true), (7, true), (8, true), (10, true), (11, true), (12, true)]) (by kernel_rfl) (by kernel_rfl) rfl ?_
        refine rd ?_
        refine dAd tb (r := ((j - 1 : Nat) : Int)) ?_ (hp := (wrap_i64 (n := ((j : Nat) : Int) - 1) (by omega) (by omega)).trans (by omega))
        refine rd ?_
        refine dAd tb (r := ((j - 1 : Nat) : Int)) ?_ (hp := (wrap_i64 (n := ((j : Nat) : Int) - 1) (by omega) (by omega)).trans (by omega))
        refine dIa tb (j - 1) ?_ (hj := fun _ => ⟨rfl, by rw [hzm]; omega⟩)
        refine rd ?_
        refine dIa tb j ?_ (hj := fun _ => ⟨rfl, by rw [hzm]; omega⟩)
        refine rd ?_
        refine GM.nil ?_
        refine GD.join [0, 1, 2, 3, 4, 5, 6, 7, 8, 9, 10, 11, 12, 13] (fun _ : Unit => [(0, none, v), (1, none, .int .i64 a), (2, none, .int .i64 b), (3, none, CF), (8, none, .int .i64 i), (9, none, .int .i64 j), (37, none, v), (38, none, .int .i64 j), (39, none, v), (41, none, .int .i64 ((j - 1 : Nat) : Int)), (46, none, Fl (at_ zs (j - 1))), (50, none, Fl (at_ zs j))]) (fun _ w' => w' = w2) ?_ fun meet => ?_
        rotate_left
        · refine GD.two (9) (13) (by kernel_rfl) (by kernel_rfl) rfl rfl ?_ ?_
          · refine (Step.load1 tb rfl (Op1.of rfl (by first | exact fun _ => rfl | exact fun h => h | exact fun h => bL h | exact fun h => bL (bL h) | exact fun h => bL (bL (bL h)))) rfl rfl (fun _ => (Sli.elem hs2 hgp).c0 rfl) rfl ?_)
            refine ⟨trivial, ?_⟩
            refine GD.steps ([(13, false)]) (by kernel_rfl) (by kernel_rfl) rfl ?_
            refine GM.eff (Step.load1 tb rfl (Op1.of rfl (by first | exact fun _ => rfl | exact fun h => h | exact fun h => bL h | exact fun h => bL (bL h) | exact fun h => bL (bL (bL h)))) rfl rfl (fun _ => (Sli.elem hs2 hgj).c0 rfl) rfl ?_)
            refine ⟨trivial, ?_⟩
            refine GM.nil ?_
            exact meet () _ _ _ rfl rfl (by repeat (first | exact Sub.nil _ | refine Sub.cons rfl ?_)) rfl
          · refine (Step.load1 tb rfl (Op1.of rfl (by first | exact fun _ => rfl | exact fun h => h | exact fun h => bL h | exact fun h => bL (bL h) | exact fun h => bL (bL (bL h)))) rfl rfl (fun _ => (Sli.elem hs2 hgj).c0 rfl) rfl ?_)
            refine ⟨trivial, ?_⟩
            refine GD.steps ([(9, false)]) (by kernel_rfl) (by kernel_rfl) rfl ?_
            refine GM.eff (Step.load1 tb rfl (Op1.of rfl (by first | exact fun _ => rfl | exact fun h => h | exact fun h => bL h | exact fun h => bL (bL h) | exact fun h => bL (bL (bL h)))) rfl rfl (fun _ => (Sli.elem hs2 hgp).c0 rfl) rfl ?_)
            refine ⟨trivial, ?_⟩
            refine GM.nil ?_
            exact meet () _ _ _ rfl rfl (by repeat (first | exact Sub.nil _ | refine Sub.cons rfl ?_)) rfl
        rintro _ w3 hw3
        obtain rfl : w2 = w3 := hw3.symm
        refine GD.steps ([(14, true), (15, false), (16, true), (17, false)]) (by kernel_rfl) (by kernel_rfl) rfl ?_
        refine dIa tb j ?_ (hj := fun _ => ⟨rfl, by rw [hzm]; omega⟩)
        refine GM.eff (Step.storeRow (j := j) (vs := fC (at_ zs (j - 1))) tb rfl (Op1.of rfl (by first | exact fun _ => rfl | exact fun h => h | exact fun h => bL h | exact fun h => bL (bL h) | exact fun h => bL (bL (bL h)))) (Op1.of rfl (by first | exact fun _ => rfl | exact fun h => h | exact fun h => bL h | exact fun h => bL (bL h) | exact fun h => bL (bL (bL h)))) rfl rfl rfl (f1 [at_ zs (j - 1)] _ (List.mem_cons_self ..)) ho1 (by rw [hzm]; omega) ?_)
        intro w4 ho4 hg4
        have hb4 := hg4.below _ hbx1
        refine ⟨trivial, ?_⟩
        refine dIa tb (j - 1) ?_ (hj := fun _ => ⟨rfl, by rw [hzm]; omega⟩)
        refine GM.eff (Step.storeRow (j := j - 1) (vs := fC (at_ zs j)) tb rfl (Op1.of rfl (by first | exact fun _ => rfl | exact fun h => h | exact fun h => bL h | exact fun h => bL (bL h) | exact fun h => bL (bL (bL h)))) (Op1.of rfl (by first | exact fun _ => rfl | exact fun h => h | exact fun h => bL h | exact fun h => bL (bL h) | exact fun h => bL (bL (bL h)))) rfl rfl rfl (f1 [at_ zs j] _ (List.mem_cons_self ..)) ho4 (by rw [List.length_set, hzm]; omega) ?_)
        intro w5 ho5 hg5
        rw [set2] at ho5
        have ho5 : FlO w5 B v (swp zs j (j - 1)) := ho5
        have hb5 := hg5.below _ hb4
        have hBz5 : B ≤ w5.heap.size := Nat.le_trans hBz (Nat.le_trans hg4.size hg5.size)
        refine ⟨trivial, ?_⟩
        refine GM.nil ?_
        refine GD.done (by kernel_rfl) ?_
        refine rn ?_
        refine sAd tb (r := ((j - 1 : Nat) : Int)) ?_ (hp := (wrap_i64 (n := ((j : Nat) : Int) - 1) (by omega) (by omega)).trans (by omega))
        refine rn ?_
        exact G.lp (x := (j, zs)) (j - 1, swp zs j (j - 1)) (by repeat (first | exact Sub.nil _ | refine Sub.cons rfl ?_)) ⟨hb5, hBz5, by show a ≤ j - 1; omega, by show j - 1 ≤ i; omega, ho5, htr.trans (Trn.swp ⟨by omega, by omega⟩ ⟨by omega, by omega⟩ (by omega)), hins.step hja hji (by omega) hlt⟩ (by show j - 1 < j; omega)
      · rw [decide_eq_false (fun h => hlt ((cmpI_lt _ _).1 h))]
        refine rn ?_
        refine sAd tb ?_
        refine rn ?_
        exact G.lp (x := (i, ys)) (i + 1, zs) (by repeat (first | exact Sub.nil _ | refine Sub.cons rfl ?_)) ⟨hb11, hBz1, by show a < i + 1; omega, .inl hilt, hoz1, htr, hins.done haj (.inr (by omega))⟩ (by show b - (i + 1) < b - i; omega)
    · refine G.regionM [(0, true), (1, true), (2, true), (3, true), (4, true), (5, true), (6, true), (7, true), (8, true), (9, true), (10, true), (11, true), (12, true), (13, true), (14, false), (15, true), (16, true)] (Ext W) (by kernel_rfl) (by kernel_rfl) rfl mixed (Ext.drew W) rfl ?_
      refine rd ?_
      rw [decide_eq_false (show ¬ ((a : Nat) : Int) < j by omega)]
      refine rd ?_
      refine GM.read (fun w' hS => Step.off (v := .pointer none) rfl (of_decide_eq_true rfl) rfl ⟨rfl, rfl⟩) rfl rfl ?_
      refine GM.read (fun w' hS => Step.off (v := Fl 0) rfl (of_decide_eq_true rfl) rfl ⟨rfl, rfl⟩) rfl rfl ?_
      refine rd ?_
      refine GM.read (fun w' hS => Step.off (v := .int .i64 0) rfl (of_decide_eq_true rfl) rfl ⟨rfl, rfl⟩) rfl rfl ?_
      refine GM.read (fun w' hS => Step.off (v := .pointer none) rfl (of_decide_eq_true rfl) rfl ⟨rfl, rfl⟩) rfl rfl ?_
      refine GM.read (fun w' hS => Step.off (v := Fl 0) rfl (of_decide_eq_true rfl) rfl ⟨rfl, rfl⟩) rfl rfl ?_
      refine GM.eff (Step.off (v := .int .i64 0) rfl (of_decide_eq_true rfl) rfl ⟨Ext.drew W, ?_⟩)
      refine rd ?_
      refine GM.nil ?_
      refine rn ?_
      refine sAd tb ?_
      refine rn ?_
      exact G.lp (x := (i, ys)) (i + 1, zs) (by repeat (first | exact Sub.nil _ | refine Sub.cons rfl ?_)) ⟨hbd, hBd, by show a < i + 1; omega, .inl hilt, hod, htr, hins.done haj (.inl (by omega))⟩ (by show b - (i + 1) < b - i; omega)
  · refine rn ?_
    refine G.end0 rfl rfl rfl ?_
    exact ⟨ys, hoy, htr, fun p q h1 h2 h3 => hsr p q h1 h2 (by omega), hb1, hBW⟩
end Go.Proofs.Ytbnckhfkkoncbaa
end
section
open Go Go.Vg Go.RowKit Go.Proofs Go.Proofs.Ytbnckhfkkoncbaa
namespace Go.Proofs.Ytbnckhfkkoncbaa

/-- n elements at a and at b have changed places -/
structure Swr (a b n : Nat) (xs ys : List Nat) : Prop where
  perm : ys.Perm xs
  one : ∀ p, a ≤ p → p < a + n → at_ ys p = at_ xs (p - a + b)
  two : ∀ p, b ≤ p → p < b + n → at_ ys p = at_ xs (p - b + a)
  out : ∀ p, ¬ (a ≤ p ∧ p < a + n) → ¬ (b ≤ p ∧ p < b + n) → at_ ys p = at_ xs p
theorem Swr.start (a b : Nat) (xs : List Nat) : Swr a b 0 xs xs := ⟨List.Perm.refl _, fun p h1 h2 => by omega, fun p h1 h2 => by omega, fun p _ _ => rfl⟩
theorem Swr.step {a b n : Nat} {xs ys : List Nat} (h : Swr a b n xs ys) (hab : a + n < b) (hb : b + n < ys.length) : Swr a b (n + 1) xs (swp ys (a + n) (b + n)) := by
  have hs := at_swp (xs := ys) (i := a + n) (j := b + n) (by omega) hb
  refine ⟨(swp_perm (by omega) hb).trans h.perm, fun p h1 h2 => ?_, fun p h1 h2 => ?_, fun p h1 h2 => ?_⟩
  · rw [hs, if_neg (by omega)]
    by_cases hp : p = a + n
    · subst hp
      rw [if_pos rfl, h.out (b + n) (by omega) (by omega)]
      congr 1; omega
    · rw [if_neg hp]; exact h.one p h1 (by omega)
  · rw [hs]
    by_cases hp : p = b + n
    · subst hp
      rw [if_pos rfl, h.out (a + n) (by omega) (by omega)]
      congr 1; omega
    · rw [if_neg hp, if_neg (by omega)]; exact h.two p h1 (by omega)
  · rw [hs, if_neg (by omega), if_neg (by omega)]
    exact h.out p (by omega) (by omega)
set_option maxHeartbeats 4000000 in
theorem swapR_ok (a b n : Nat) (B : Nat) (v : Value) (xs : List Nat) (w : World) (ho : FlO w B v xs) (hB : B ≤ w.heap.size) (hab : a + n ≤ b) (hb : b + n ≤ xs.length) (hlen : xs.length ≤ 1000) :
    Ret Try.prog 116 ⟨[v, .int .i64 a, .int .i64 b, .int .i64 n, CF]⟩ w fun _ w' => ∃ ys, FlO w' B v ys ∧ Swr a b n xs ys ∧ Below B w w' ∧ B ≤ w'.heap.size := by
  refine ret_of_G Try.func116 rfl Try.ntmps116 rfl ?_
  simp only [argEnv]
  refine rn ?_
  refine (G.loop (fun x : Nat × List Nat => [(0, none, v), (1, none, .int .i64 a), (2, none, .int .i64 b), (3, none, .int .i64 n), (10, none, .int .i64 x.1)]) (fun x W => Below B w W ∧ B ≤ W.heap.size ∧ x.1 ≤ n ∧ FlO W B v x.2 ∧ Swr a b x.1 xs x.2) (fun x => n - x.1) (0, xs) (by repeat (first | exact Sub.nil _ | refine Sub.cons rfl ?_)) ⟨Below.refl _ _, hB, Nat.zero_le _, ho, Swr.start _ _ _⟩ ?_)
  clear ho hB
  rintro ⟨i, zs⟩ W ⟨hb1, hBW, hin, hoz, hsw⟩
  simp only at hin hoz hsw ⊢
  have hzl := hsw.perm.length_eq
  have hzm : (zs.map fC).length = zs.length := List.length_map ..
  refine rn ?_
  first | refine G.condD rfl (fun hc => ?_) (fun hc => ?_) | refine G.condN rfl (fun hc => ?_) (fun hc => ?_) | refine G.cond rfl (fun hc => ?_) (fun hc => ?_)
  · have hlt : i < n := by omega
    refine rn ?_
    refine G.regionG (fun _ => True) mixed trivial ?_
    have ho1 := hoz.to (Ext.drew W)
    have hbx1 := hb1.ext (Ext.drew W) hBW
    have hBz : B ≤ W.drew.heap.size := Nat.le_trans hBW (Ext.drew W).size
    generalize W.drew = w2 at ho1 hbx1 hBz ⊢
    have hs2 := ho1.sli
    have hga : (zs.map fC)[a + i]? = some [Fl (at_ zs (a + i))] := by rw [List.getElem?_map, at_get (by omega)]; rfl
    have hgb : (zs.map fC)[b + i]? = some [Fl (at_ zs (b + i))] := by rw [List.getElem?_map, at_get (by omega)]; rfl
    have hwa : IntKind.i64.wrap (((a : Nat) : Int) + ((i : Nat) : Int)) = ((a + i : Nat) : Int) := (wrap_i64 (n := ((a : Nat) : Int) + ((i : Nat) : Int)) (by omega) (by omega)).trans (by omega)
    have hwb : IntKind.i64.wrap (((b : Nat) : Int) + ((i : Nat) : Int)) = ((b + i : Nat) : Int) := (wrap_i64 (n := ((b : Nat) : Int) + ((i : Nat) : Int)) (by omega) (by omega)).trans (by omega)
    refine GD.steps ([(0, true), (1, true), (2, true), (3, true), (4, true), (5, true), (6, true), (7, true), (8, true), (9, true), (10, true), (11, true), (12, true), (14, true), (15, true), (16, true), (17, true), (18, true)]) (by kernel_rfl) (by kernel_rfl) rfl ?_
    refine rd ?_
    refine dAd tb (r := ((a + i : Nat) : Int)) ?_ (hp := hwa)
    refine rd ?_
    refine dAd tb (r := ((b + i : Nat) : Int)) ?_ (hp := hwb)
    refine rd ?_
    refine dAd tb (r := ((b + i : Nat) : Int)) ?_ (hp := hwb)
    refine dIa tb (b + i) ?_ (hj := fun _ => ⟨rfl, by rw [hzm]; omega⟩)
    refine rd ?_
    refine dAd tb (r := ((a + i : Nat) : Int)) ?_ (hp := hwa)
    refine dIa tb (a + i) ?_ (hj := fun _ => ⟨rfl, by rw [hzm]; omega⟩)
    refine rd ?_
    refine GM.nil ?_
    refine GD.join [0, 1, 2, 3, 4, 5, 6, 7, 8, 9, 10, 11, 12, 13, 14, 15, 16, 17, 18, 19] (fun _ : Unit => [(0, none, v), (1, none, .int .i64 a), (2, none, .int .i64 b), (3, none, .int .i64 n), (10, none, .int .i64 i), (16, none, v), (19, none, .int .i64 ((a + i : Nat) : Int)), (20, none, v), (23, none, .int .i64 ((b + i : Nat) : Int)), (29, none, Fl (at_ zs (b + i))), (35, none, Fl (at_ zs (a + i)))]) (fun _ w' => w' = w2) ?_ fun meet => ?_
    rotate_left
    · refine GD.two (13) (19) (by kernel_rfl) (by kernel_rfl) rfl rfl ?_ ?_
      · refine (Step.load1 tb rfl (Op1.of rfl (by first | exact fun _ => rfl | exact fun h => h | exact fun h => bL h | exact fun h => bL (bL h) | exact fun h => bL (bL (bL h)))) rfl rfl (fun _ => (Sli.elem hs2 hgb).c0 rfl) rfl ?_)
        refine ⟨trivial, ?_⟩
        refine GD.steps ([(19, false)]) (by kernel_rfl) (by kernel_rfl) rfl ?_
        refine GM.eff (Step.load1 tb rfl (Op1.of rfl (by first | exact fun _ => rfl | exact fun h => h | exact fun h => bL h | exact fun h => bL (bL h) | exact fun h => bL (bL (bL h)))) rfl rfl (fun _ => (Sli.elem hs2 hga).c0 rfl) rfl ?_)
        refine ⟨trivial, ?_⟩
        refine GM.nil ?_
        exact meet () _ _ _ rfl rfl (by repeat (first | exact Sub.nil _ | refine Sub.cons rfl ?_)) rfl
      · refine (Step.load1 tb rfl (Op1.of rfl (by first | exact fun _ => rfl | exact fun h => h | exact fun h => bL h | exact fun h => bL (bL h) | exact fun h => bL (bL (bL h)))) rfl rfl (fun _ => (Sli.elem hs2 hga).c0 rfl) rfl ?_)
        refine ⟨trivial, ?_⟩
        refine GD.steps ([(13, false)]) (by kernel_rfl) (by kernel_rfl) rfl ?_
        refine GM.eff (Step.load1 tb rfl (Op1.of rfl (by first | exact fun _ => rfl | exact fun h => h | exact fun h => bL h | exact fun h => bL (bL h) | exact fun h => bL (bL (bL h)))) rfl rfl (fun _ => (Sli.elem hs2 hgb).c0 rfl) rfl ?_)
        refine ⟨trivial, ?_⟩
        refine GM.nil ?_
        exact meet () _ _ _ rfl rfl (by repeat (first | exact Sub.nil _ | refine Sub.cons rfl ?_)) rfl
    rintro _ w3 hw3
    obtain rfl : w2 = w3 := hw3.symm
    refine GD.steps ([(20, true), (21, false), (22, true), (23, false)]) (by kernel_rfl) (by kernel_rfl) rfl ?_
    refine dIa tb (a + i) ?_ (hj := fun _ => ⟨rfl, by rw [hzm]; omega⟩)
    refine GM.eff (Step.storeRow (j := a + i) (vs := fC (at_ zs (b + i))) tb rfl (Op1.of rfl (by first | exact fun _ => rfl | exact fun h => h | exact fun h => bL h | exact fun h => bL (bL h) | exact fun h => bL (bL (bL h)))) (Op1.of rfl (by first | exact fun _ => rfl | exact fun h => h | exact fun h => bL h | exact fun h => bL (bL h) | exact fun h => bL (bL (bL h)))) rfl rfl rfl (f1 [at_ zs (b + i)] _ (List.mem_cons_self ..)) ho1 (by rw [hzm]; omega) ?_)
    intro w4 ho4 hg4
    have hb4 := hg4.below _ hbx1
    refine ⟨trivial, ?_⟩
    refine dIa tb (b + i) ?_ (hj := fun _ => ⟨rfl, by rw [hzm]; omega⟩)
    refine GM.eff (Step.storeRow (j := b + i) (vs := fC (at_ zs (a + i))) tb rfl (Op1.of rfl (by first | exact fun _ => rfl | exact fun h => h | exact fun h => bL h | exact fun h => bL (bL h) | exact fun h => bL (bL (bL h)))) (Op1.of rfl (by first | exact fun _ => rfl | exact fun h => h | exact fun h => bL h | exact fun h => bL (bL h) | exact fun h => bL (bL (bL h)))) rfl rfl rfl (f1 [at_ zs (a + i)] _ (List.mem_cons_self ..)) ho4 (by rw [List.length_set, hzm]; omega) ?_)
    intro w5 ho5 hg5
    rw [set2] at ho5
    have ho5 : FlO w5 B v (swp zs (a + i) (b + i)) := ho5
    have hb5 := hg5.below _ hb4
    have hBz5 : B ≤ w5.heap.size := Nat.le_trans hBz (Nat.le_trans hg4.size hg5.size)
    refine ⟨trivial, ?_⟩
    refine GM.nil ?_
    refine GD.done (by kernel_rfl) ?_
    refine rn ?_
    refine sAd tb ?_
    refine rn ?_
    exact G.lp (x := (i, zs)) (i + 1, swp zs (a + i) (b + i)) (by repeat (first | exact Sub.nil _ | refine Sub.cons rfl ?_)) ⟨hb5, hBz5, hlt, ho5, hsw.step (by omega) (by omega)⟩ (by show n - (i + 1) < n - i; omega)
  · have hie : i = n := by omega
    subst hie
    refine rn ?_
    refine G.end0 rfl rfl rfl ?_
    exact ⟨zs, hoz, hsw, hb1, hBW⟩
end Go.Proofs.Ytbnckhfkkoncbaa
end
section
open Go Go.Vg Go.RowKit Go.Proofs Go.Proofs.Ytbnckhfkkoncbaa
namespace Go.Proofs.Ytbnckhfkkoncbaa

/-- the parts from a and from m have changed places -/
structure Rot (a m b : Nat) (xs ys : List Nat) : Prop where
  perm : ys.Perm xs
  left : ∀ p, a ≤ p → p < a + (b - m) → at_ ys p = at_ xs (p + (m - a))
  right : ∀ p, a + (b - m) ≤ p → p < b → at_ ys p = at_ xs (p - (b - m))
  out : ∀ p, p < a ∨ b ≤ p → at_ ys p = at_ xs p
theorem at_eq {xs : List Nat} {p q : Nat} (h : p = q) : at_ xs p = at_ xs q := by rw [h]
theorem Rot.gt {m i j : Nat} {xs ys zs : List Nat} (hi : j < i) (him : i ≤ m) (h : Swr (m - i) m j xs ys) (k : Rot (m - (i - j)) m (m + j) ys zs) : Rot (m - i) m (m + j) xs zs := by
  refine ⟨k.perm.trans h.perm, fun p h1 h2 => ?_, fun p h1 h2 => ?_, fun p hp => ?_⟩
  · rw [k.out p (by omega), h.one p h1 (by omega)]
    exact at_eq (by omega)
  · by_cases hp : p < m - (i - j) + j
    · rw [k.left p (by omega) (by omega), h.two _ (by omega) (by omega)]
      exact at_eq (by omega)
    · rw [k.right p (by omega) (by omega), h.out _ (by omega) (by omega)]
  · rw [k.out p (by omega), h.out p (by omega) (by omega)]
theorem Rot.lt {m i j : Nat} {xs ys zs : List Nat} (hi : i < j) (him : i ≤ m) (h : Swr (m - i) (m + j - i) i xs ys) (k : Rot (m - i) m (m + (j - i)) ys zs) : Rot (m - i) m (m + j) xs zs := by
  refine ⟨k.perm.trans h.perm, fun p h1 h2 => ?_, fun p h1 h2 => ?_, fun p hp => ?_⟩
  · by_cases hp : p < m - i + (j - i)
    · rw [k.left p h1 (by omega), h.out _ (by omega) (by omega)]
    · rw [k.right p (by omega) (by omega), h.one _ (by omega) (by omega)]
      exact at_eq (by omega)
  · rw [k.out p (by omega), h.two p (by omega) (by omega)]
    exact at_eq (by omega)
  · rw [k.out p (by omega), h.out p (by omega) (by omega)]
theorem Rot.eq {m i : Nat} {xs ys : List Nat} (him : i ≤ m) (h : Swr (m - i) m i xs ys) : Rot (m - i) m (m + i) xs ys := by
  refine ⟨h.perm, fun p h1 h2 => ?_, fun p h1 h2 => ?_, fun p hp => ?_⟩
  · rw [h.one p h1 (by omega)]; exact at_eq (by omega)
  · rw [h.two p (by omega) (by omega)]; exact at_eq (by omega)
  · exact h.out p (by omega) (by omega)
set_option maxHeartbeats 4000000 in
theorem rotate_ok (a m b : Nat) (B : Nat) (v : Value) (xs : List Nat) (w : World) (ho : FlO w B v xs) (hB : B ≤ w.heap.size) (ham : a < m) (hmb : m < b) (hb : b ≤ xs.length) (hlen : xs.length ≤ 1000) :
    Ret Try.prog 112 ⟨[v, .int .i64 a, .int .i64 m, .int .i64 b, CF]⟩ w fun _ w' => ∃ ys, FlO w' B v ys ∧ Rot a m b xs ys ∧ Below B w w' ∧ B ≤ w'.heap.size := by
  refine ret_of_G Try.func112 rfl Try.ntmps112 rfl ?_
  simp only [argEnv]
  refine rn ?_
  refine sAd tb (r := ((m - a : Nat) : Int)) ?_ (hp := (wrap_i64 (n := ((m : Nat) : Int) - ((a : Nat) : Int)) (by omega) (by omega)).trans (by omega))
  refine rn ?_
  refine sAd tb (r := ((b - m : Nat) : Int)) ?_ (hp := (wrap_i64 (n := ((b : Nat) : Int) - ((m : Nat) : Int)) (by omega) (by omega)).trans (by omega))
  refine rn ?_
  refine (G.loop (fun x : Nat × Nat × List Nat => [(0, none, v), (2, none, .int .i64 m), (4, none, CF), (10, none, .int .i64 x.1), (11, none, .int .i64 x.2.1)]) (fun x W => Below B w W ∧ B ≤ W.heap.size ∧ 1 ≤ x.1 ∧ 1 ≤ x.2.1 ∧ x.1 ≤ m ∧ m + x.2.1 ≤ b ∧ FlO W B v x.2.2 ∧ x.2.2.length = xs.length ∧ ∀ zs, Rot (m - x.1) m (m + x.2.1) x.2.2 zs → Rot a m b xs zs) (fun x => x.1 + x.2.1) (m - a, b - m, xs) (by repeat (first | exact Sub.nil _ | refine Sub.cons rfl ?_)) ⟨Below.refl _ _, hB, by show 1 ≤ m - a; omega, by show 1 ≤ b - m; omega, by show m - a ≤ m; omega, by show m + (b - m) ≤ b; omega, ho, rfl, fun zs h => by have h : Rot (m - (m - a)) m (m + (b - m)) xs zs := h; rwa [show m - (m - a) = a by omega, show m + (b - m) = b by omega] at h⟩ ?_)
  clear ho hB
  rintro ⟨i, j, ys⟩ W ⟨hb1, hBW, hi1, hj1, him, hjb, hoy, hyl, hrot⟩
  simp only at hi1 hj1 him hjb hoy hyl hrot ⊢
  refine rn ?_
  by_cases hij : i = j
  · subst hij
    refine rn ?_
    rw [decide_eq_true (show ((i : Nat) : Int) = i from rfl)]
    refine rn ?_
    refine sAd tb (r := ((m - i : Nat) : Int)) ?_ (hp := (wrap_i64 (n := ((m : Nat) : Int) - ((i : Nat) : Int)) (by omega) (by omega)).trans (by omega))
    refine rn ?_
    refine sCall c116 (swapR_ok (m - i) m i B v ys W hoy hBW (by omega) (by omega) (by omega)) ?_
    rintro _ W2 ⟨zs, hoz, hsw, hb2, hB2⟩
    refine rn ?_
    refine G.end0 rfl rfl rfl ?_
    exact ⟨zs, hoz, hrot zs (Rot.eq him hsw), Below.trans hb1 hb2, hB2⟩
  · rw [decide_eq_false (show ¬ ((i : Nat) : Int) = j by omega)]
    refine rn ?_
    first | refine G.condD rfl (fun hc => ?_) (fun hc => ?_) | refine G.condN rfl (fun hc => ?_) (fun hc => ?_) | refine G.cond rfl (fun hc => ?_) (fun hc => ?_)
    · refine rn ?_
      refine sAd tb (r := ((m - i : Nat) : Int)) ?_ (hp := (wrap_i64 (n := ((m : Nat) : Int) - ((i : Nat) : Int)) (by omega) (by omega)).trans (by omega))
      refine rn ?_
      refine sCall c116 (swapR_ok (m - i) m j B v ys W hoy hBW (by omega) (by omega) (by omega)) ?_
      rintro _ W2 ⟨zs, hoz, hsw, hb2, hB2⟩
      refine rn ?_
      refine sAd tb (r := ((i - j : Nat) : Int)) ?_ (hp := (wrap_i64 (n := ((i : Nat) : Int) - ((j : Nat) : Int)) (by omega) (by omega)).trans (by omega))
      refine rn ?_
      exact G.lp (x := (i, j, ys)) (i - j, j, zs) (by repeat (first | exact Sub.nil _ | refine Sub.cons rfl ?_)) ⟨Below.trans hb1 hb2, hB2, by show 1 ≤ i - j; omega, hj1, by show i - j ≤ m; omega, hjb, hoz, hsw.perm.length_eq.trans hyl, fun us hu => hrot us (Rot.gt (by omega) him hsw hu)⟩ (by show i - j + j < i + j; omega)
    · refine rn ?_
      refine sAd tb (r := ((m - i : Nat) : Int)) ?_ (hp := (wrap_i64 (n := ((m : Nat) : Int) - ((i : Nat) : Int)) (by omega) (by omega)).trans (by omega))
      refine rn ?_
      refine sAd tb (r := ((m + j : Nat) : Int)) ?_ (hp := (wrap_i64 (n := ((m : Nat) : Int) + ((j : Nat) : Int)) (by omega) (by omega)).trans (by omega))
      refine rn ?_
      refine sAd tb (r := ((m + j - i : Nat) : Int)) ?_ (hp := (wrap_i64 (n := ((m + j : Nat) : Int) - ((i : Nat) : Int)) (by omega) (by omega)).trans (by omega))
      refine rn ?_
      refine sCall c116 (swapR_ok (m - i) (m + j - i) i B v ys W hoy hBW (by omega) (by omega) (by omega)) ?_
      rintro _ W2 ⟨zs, hoz, hsw, hb2, hB2⟩
      refine rn ?_
      refine sAd tb (r := ((j - i : Nat) : Int)) ?_ (hp := (wrap_i64 (n := ((j : Nat) : Int) - ((i : Nat) : Int)) (by omega) (by omega)).trans (by omega))
      refine rn ?_
      exact G.lp (x := (i, j, ys)) (i, j - i, zs) (by repeat (first | exact Sub.nil _ | refine Sub.cons rfl ?_)) ⟨Below.trans hb1 hb2, hB2, hi1, by show 1 ≤ j - i; omega, him, by show m + (j - i) ≤ b; omega, hoz, hsw.perm.length_eq.trans hyl, fun us hu => hrot us (Rot.lt (by omega) him hsw hu)⟩ (by show i + (j - i) < i + j; omega)
end Go.Proofs.Ytbnckhfkkoncbaa
end
section
open Go Go.Vg Go.RowKit Go.Proofs Go.Proofs.Ytbnckhfkkoncbaa
namespace Go.Proofs.Ytbnckhfkkoncbaa

/-- the element at a has moved up to k -/
structure MvU (a k : Nat) (xs ys : List Nat) : Prop where
  perm : ys.Perm xs
  low : ∀ p, a ≤ p → p < k → at_ ys p = at_ xs (p + 1)
  me : at_ ys k = at_ xs a
  out : ∀ p, p < a ∨ k < p → at_ ys p = at_ xs p
theorem MvU.start (a : Nat) (xs : List Nat) : MvU a a xs xs := ⟨List.Perm.refl _, fun p h1 h2 => by omega, rfl, fun _ _ => rfl⟩
theorem MvU.step {a k : Nat} {xs ys : List Nat} (h : MvU a k xs ys) (hak : a ≤ k) (hk : k + 1 < ys.length) : MvU a (k + 1) xs (swp ys k (k + 1)) := by
  have hs := at_swp (xs := ys) (i := k) (j := k + 1) (by omega) hk
  refine ⟨(swp_perm (by omega) hk).trans h.perm, fun p h1 h2 => ?_, ?_, fun p hp => ?_⟩
  · rw [hs, if_neg (by omega)]
    by_cases hp : p = k
    · subst hp; rw [if_pos rfl, h.out (p + 1) (by omega)]
    · rw [if_neg hp]; exact h.low p h1 (by omega)
  · rw [hs, if_pos rfl]; exact h.me
  · rw [hs, if_neg (by omega), if_neg (by omega)]; exact h.out p (by omega)
/-- the element at m has moved down to k -/
structure MvD (m k : Nat) (xs ys : List Nat) : Prop where
  perm : ys.Perm xs
  high : ∀ p, k < p → p ≤ m → at_ ys p = at_ xs (p - 1)
  me : at_ ys k = at_ xs m
  out : ∀ p, p < k ∨ m < p → at_ ys p = at_ xs p
theorem MvD.start (m : Nat) (xs : List Nat) : MvD m m xs xs := ⟨List.Perm.refl _, fun p h1 h2 => by omega, rfl, fun _ _ => rfl⟩
theorem MvD.step {m k : Nat} {xs ys : List Nat} (h : MvD m k xs ys) (hk0 : 0 < k) (hkm : k ≤ m) (hm : m < ys.length) : MvD m (k - 1) xs (swp ys k (k - 1)) := by
  have hs := at_swp (xs := ys) (i := k) (j := k - 1) (by omega) (by omega)
  refine ⟨(swp_perm (by omega) (by omega)).trans h.perm, fun p h1 h2 => ?_, ?_, fun p hp => ?_⟩
  · rw [hs, if_neg (by omega)]
    by_cases hp : p = k
    · subst hp; rw [if_pos rfl, h.out (p - 1) (by omega)]
    · rw [if_neg hp]; exact h.high p (by omega) h2
  · rw [hs, if_pos rfl]; exact h.me
  · rw [hs, if_neg (by omega), if_neg (by omega)]; exact h.out p (by omega)
theorem MvU.sorted {K : Nat → Int} {a i b : Nat} {xs ys : List Nat} (h : MvU a (i - 1) xs ys) (hi : a + 1 ≤ i) (hib : i ≤ b) (hs : Srt K (a + 1) b xs) (h1 : ∀ p, a + 1 ≤ p → p < i → K (at_ xs p) ≤ K (at_ xs a)) (h2 : ∀ p, i ≤ p → p < b → K (at_ xs a) ≤ K (at_ xs p)) : Trn a b xs ys ∧ Srt K a b ys := by
  refine ⟨⟨h.perm, fun p hp => h.out p (by omega)⟩, fun p q hp hpq hq => ?_⟩
  by_cases c1 : q < i - 1
  · rw [h.low p hp (by omega), h.low q (by omega) c1]; exact hs _ _ (by omega) (by omega) (by omega)
  · by_cases c2 : q = i - 1
    · subst c2; rw [h.low p hp hpq, h.me]; exact h1 _ (by omega) (by omega)
    · rw [h.out q (by omega)]
      by_cases c3 : p < i - 1
      · rw [h.low p hp c3]; exact hs _ _ (by omega) (by omega) hq
      · by_cases c4 : p = i - 1
        · subst c4; rw [h.me]; exact h2 q (by omega) hq
        · rw [h.out p (by omega)]; exact hs _ _ (by omega) hpq hq
theorem MvD.sorted {K : Nat → Int} {a i m : Nat} {xs ys : List Nat} (h : MvD m i xs ys) (hi : a ≤ i) (him : i ≤ m) (hs : Srt K a m xs) (h1 : ∀ p, a ≤ p → p < i → K (at_ xs p) ≤ K (at_ xs m)) (h2 : ∀ p, i ≤ p → p < m → K (at_ xs m) ≤ K (at_ xs p)) : Trn a (m + 1) xs ys ∧ Srt K a (m + 1) ys := by
  refine ⟨⟨h.perm, fun p hp => h.out p (by omega)⟩, fun p q hp hpq hq => ?_⟩
  by_cases c1 : q < i
  · rw [h.out p (by omega), h.out q (by omega)]; exact hs _ _ hp hpq (by omega)
  · by_cases c2 : q = i
    · subst c2; rw [h.out p (by omega), h.me]; exact h1 _ hp hpq
    · rw [h.high q (by omega) (by omega)]
      by_cases c3 : p < i
      · rw [h.out p (by omega)]; exact hs _ _ hp (by omega) (by omega)
      · by_cases c4 : p = i
        · subst c4; rw [h.me]; exact h2 _ (by omega) (by omega)
        · rw [h.high p (by omega) (by omega)]; exact hs _ _ (by omega) (by omega) (by omega)
/-- both halves sorted behind the turning: all sorted -/
theorem sym_split {K : Nat → Int} {a m b s mid e : Nat} {xs ys : List Nat} (ham : a < m) (hmb : m < b) (has : a ≤ s) (hsm : s ≤ m) (hme : m ≤ e) (heb : e ≤ b) (hmid : mid = s + (e - m)) (h1 : Srt K a m xs) (h2 : Srt K m b xs)
    (hx1 : a < s → e < b → K (at_ xs (s - 1)) ≤ K (at_ xs e)) (hx2 : m < e → s < m → K (at_ xs (e - 1)) ≤ K (at_ xs s)) (hr : Rot s m e xs ys) :
    Trn a b xs ys ∧ Srt K a s ys ∧ Srt K s mid ys ∧ Srt K mid e ys ∧ Srt K e b ys ∧ ∀ p q, a ≤ p → p < mid → mid ≤ q → q < b → K (at_ ys p) ≤ K (at_ ys q) := by
  refine ⟨⟨hr.perm, fun p hp => hr.out p (by omega)⟩, fun p q hp hpq hq => ?_, fun p q hp hpq hq => ?_, fun p q hp hpq hq => ?_, fun p q hp hpq hq => ?_, fun p q h3 h4 h5 h6 => ?_⟩
  · rw [hr.out p (by omega), hr.out q (by omega)]; exact h1 p q hp hpq (by omega)
  · rw [hr.left p hp (by omega), hr.left q (by omega) (by omega)]; exact h2 _ _ (by omega) (by omega) (by omega)
  · rw [hr.right p (by omega) (by omega), hr.right q (by omega) (by omega)]; exact h1 _ _ (by omega) (by omega) (by omega)
  · rw [hr.out p (by omega), hr.out q (by omega)]; exact h2 p q (by omega) hpq hq
  · by_cases c1 : p < s
    · rw [hr.out p (by omega)]
      by_cases c2 : q < e
      · rw [hr.right q (by omega) c2]; exact h1 _ _ h3 (by omega) (by omega)
      · rw [hr.out q (by omega)]
        have a1 : K (at_ xs p) ≤ K (at_ xs (s - 1)) := by
          by_cases c : p = s - 1
          · rw [c]; exact Int.le_refl _
          · exact h1 _ _ h3 (by omega) (by omega)
        have a2 : K (at_ xs e) ≤ K (at_ xs q) := by
          by_cases c : q = e
          · rw [c]; exact Int.le_refl _
          · exact h2 _ _ (by omega) (by omega) h6
        exact Int.le_trans a1 (Int.le_trans (hx1 (by omega) (by omega)) a2)
    · rw [hr.left p (by omega) (by omega)]
      by_cases c2 : q < e
      · rw [hr.right q (by omega) c2]
        have a1 : K (at_ xs (p + (m - s))) ≤ K (at_ xs (e - 1)) := by
          by_cases c : p + (m - s) = e - 1
          · rw [c]; exact Int.le_refl _
          · exact h2 _ _ (by omega) (by omega) (by omega)
        have a2 : K (at_ xs s) ≤ K (at_ xs (q - (e - m))) := by
          by_cases c : q - (e - m) = s
          · rw [c]; exact Int.le_refl _
          · exact h1 _ _ (by omega) (by omega) (by omega)
        exact Int.le_trans a1 (Int.le_trans (hx2 (by omega) (by omega)) a2)
      · rw [hr.out q (by omega)]; exact h2 _ _ (by omega) (by omega) h6
theorem Rot.same {s m e : Nat} {xs : List Nat} (h : s = m ∨ m = e) : Rot s m e xs xs := by
  refine ⟨List.Perm.refl _, fun p h1 h2 => at_eq (by omega), fun p h1 h2 => at_eq (by omega), fun _ _ => rfl⟩
theorem Trn.mem {a b : Nat} {xs ys : List Nat} (h : Trn a b xs ys) (hb : b ≤ xs.length) {p : Nat} (h1 : a ≤ p) (h2 : p < b) : ∃ q, a ≤ q ∧ q < b ∧ at_ ys p = at_ xs q := by
  have hl := h.len
  have ext : ∀ i, i < a ∨ b ≤ i → ys[i]? = xs[i]? := fun i hi => by
    by_cases hlt : i < xs.length
    · rw [at_get (by omega), at_get hlt, h.out i hi]
    · rw [List.getElem?_eq_none (by omega), List.getElem?_eq_none (by omega)]
  have e1 : ys.take a = xs.take a := by
    apply List.ext_getElem?
    intro i
    rw [List.getElem?_take, List.getElem?_take]
    split
    · exact ext i (.inl (by assumption))
    · rfl
  have e2 : ys.drop b = xs.drop b := by
    apply List.ext_getElem?
    intro i
    rw [List.getElem?_drop, List.getElem?_drop]
    exact ext _ (.inr (by omega))
  have dec : ∀ l : List Nat, l = l.take a ++ ((l.take b).drop a ++ l.drop b) := fun l => by
    have q1 : l.take a = (l.take b).take a := by rw [List.take_take, Nat.min_eq_left (by omega)]
    rw [← List.append_assoc, q1, List.take_append_drop, List.take_append_drop]
  have hp := h.perm
  rw [dec ys, dec xs, e1, e2, List.perm_append_left_iff, List.perm_append_right_iff] at hp
  have hm : at_ ys p ∈ (ys.take b).drop a := by
    refine List.mem_of_getElem? (i := p - a) ?_
    rw [List.getElem?_drop, List.getElem?_take, if_pos (by omega), show a + (p - a) = p by omega]
    exact at_get (by omega)
  obtain ⟨i, hi⟩ := List.getElem?_of_mem (hp.subset hm)
  rw [List.getElem?_drop, List.getElem?_take] at hi
  split at hi
  · rename_i hlt
    refine ⟨a + i, by omega, hlt, ?_⟩
    rw [at_get (by omega)] at hi
    exact (Option.some.inj hi).symm
  · cases hi
/-- the halves are sorted -/
theorem sym_join {K : Nat → Int} {a mid b : Nat} {ys us ws : List Nat} (hab : a ≤ mid) (hmb : mid ≤ b) (hc : ∀ p q, a ≤ p → p < mid → mid ≤ q → q < b → K (at_ ys p) ≤ K (at_ ys q)) (hyl : b ≤ ys.length)
    (t1 : Trn a mid ys us) (s1 : Srt K a mid us) (t2 : Trn mid b us ws) (s2 : Srt K mid b ws) : Trn a b ys ws ∧ Srt K a b ws := by
  refine ⟨(t1.mono (Nat.le_refl _) hmb).trans (t2.mono hab (Nat.le_refl _)), fun p q hp hpq hq => ?_⟩
  by_cases c1 : q < mid
  · rw [t2.out p (by omega), t2.out q (by omega)]; exact s1 p q hp hpq c1
  · by_cases c2 : p < mid
    · rw [t2.out p (by omega)]
      obtain ⟨p', h1, h2, h3⟩ := t1.mem (by omega) hp c2
      obtain ⟨q', h4, h5, h6⟩ := t2.mem (by rw [t1.len]; exact hyl) (show mid ≤ q by omega) hq
      rw [h3, h6, t1.out q' (by omega)]
      exact hc p' q' h1 h2 h4 h5
    · exact s2 p q (by omega) hpq hq
end Go.Proofs.Ytbnckhfkkoncbaa
end
section
open Go Go.Vg Go.RowKit Go.Proofs Go.Proofs.Ytbnckhfkkoncbaa
namespace Go.Proofs.Ytbnckhfkkoncbaa

def SymC (K : Nat → Int) (v : Value) (B : Nat) (a m b : Nat) (xs : List Nat) (W : World) : Prop :=
  Ret Try.prog 104 ⟨[v, .int .i64 a, .int .i64 m, .int .i64 b, CF]⟩ W fun _ w' => ∃ ys, FlO w' B v ys ∧ Trn a b xs ys ∧ Srt K a b ys ∧ Below B W w' ∧ B ≤ w'.heap.size
set_option maxHeartbeats 8000000 in
theorem symS_ok (K : Nat → Int) (a m b : Nat) (B : Nat) (v : Value) (xs : List Nat) (w : World) (ho : FlO w B v xs) (hB : B ≤ w.heap.size) (hK : Good K xs) (ham : a < m) (hmb : m < b) (hb : b ≤ xs.length) (hlen : xs.length ≤ 1000) (h1 : Srt K a m xs) (h2 : Srt K m b xs)
    (hrec : ∀ a' m' b' xs' W', b' - a' < b - a → a' < m' → m' < b' → b' ≤ xs'.length → xs'.length ≤ 1000 → Good K xs' → FlO W' B v xs' → B ≤ W'.heap.size → Srt K a' m' xs' → Srt K m' b' xs' → SymC K v B a' m' b' xs' W') : SymC K v B a m b xs w := by
  have hxm : (xs.map fC).length = xs.length := List.length_map ..
  have hgx : ∀ p, p < xs.length → (xs.map fC)[p]? = some [Fl (at_ xs p)] := fun p hp => by rw [List.getElem?_map, at_get hp]; rfl
  have hKa := fun p (hp : p < xs.length) => hK.at hp
  unfold SymC
  refine ret_of_G Try.func104 rfl Try.ntmps104 rfl ?_
  simp only [argEnv]
  refine rn ?_
  refine sAd tb (r := ((m - a : Nat) : Int)) ?_ (hp := (wrap_i64 (n := ((m : Nat) : Int) - ((a : Nat) : Int)) (by omega) (by omega)).trans (by omega))
  refine rn ?_
  first | refine G.condD rfl (fun hc => ?_) (fun hc => ?_) | refine G.condN rfl (fun hc => ?_) (fun hc => ?_) | refine G.cond rfl (fun hc => ?_) (fun hc => ?_)
  · have hma : m = a + 1 := by omega
    refine rn ?_
    refine (G.loop (fun x : Nat × Nat => [(0, none, v), (1, none, .int .i64 a), (4, none, CF), (10, none, .int .i64 x.1), (11, none, .int .i64 x.2)]) (fun x W => Below B w W ∧ B ≤ W.heap.size ∧ FlO W B v xs ∧ m ≤ x.1 ∧ x.1 ≤ x.2 ∧ x.2 ≤ b ∧ (∀ p, m ≤ p → p < x.1 → K (at_ xs p) ≤ K (at_ xs a)) ∧ ∀ p, x.2 ≤ p → p < b → K (at_ xs a) ≤ K (at_ xs p)) (fun x => x.2 - x.1) (m, b) (by repeat (first | exact Sub.nil _ | refine Sub.cons rfl ?_)) ⟨Below.refl _ _, hB, ho, Nat.le_refl _, Nat.le_of_lt hmb, Nat.le_refl _, fun p h3 h4 => by have h4 : p < m := h4; omega, fun p h3 h4 => by have h3 : b ≤ p := h3; omega⟩ ?_)
    clear ho hB
    rintro ⟨i, j⟩ W ⟨hb1, hBW, hoz, hmi, hij, hjb, hlo, hhi⟩
    simp only at hmi hij hjb hlo hhi ⊢
    refine rn ?_
    by_cases hlt : i < j
    · rw [decide_eq_true (show ((i : Nat) : Int) < j by omega)]
      obtain ⟨h, hh⟩ : ∃ h, h = (i + j) / 2 := ⟨_, rfl⟩
      have hhi2 : i ≤ h ∧ h < j := by omega
      have hsl := hoz.sli
      have hgh := hgx h (by omega)
      have hga := hgx a (by omega)
      have hcmp := fun W' => cmpQ_ok (at_ xs h) (at_ xs a) _ _ (hKa h (by omega)) (hKa a (by omega)) W'
      refine rn ?_
      refine sAd tb (r := ((i + j : Nat) : Int)) ?_
      refine sCv tb (r := ((i + j : Nat) : Int)) ?_ (hr := wrap_u64 (by omega) (by omega))
      refine sShr (a := ((i + j : Nat) : Int)) (n := 1) (r := ((h : Nat) : Int)) (by rw [hh]; omega) ?_
      refine sCv tb (r := ((h : Nat) : Int)) ?_ (hr := wrap_i64 (by omega) (by omega))
      refine rn ?_
      refine G.regionM [(0, true), (1, true), (2, true), (3, true), (4, true), (5, true), (6, true), (7, true), (8, true), (9, false), (10, true)] (Ext W) (by kernel_rfl) (by kernel_rfl) rfl mixed (Ext.drew W) rfl ?_
      refine rd ?_
      refine dIa tb h ?_ (hj := fun _ => ⟨rfl, by rw [hxm]; omega⟩)
      refine rd ?_
      refine dIa tb a ?_ (hj := fun _ => ⟨rfl, by rw [hxm]; omega⟩)
      refine rd ?_
      refine GM.eff (Step.callXC rfl (Op1.of rfl (by first | exact fun _ => rfl | exact fun h => h | exact fun h => bL h | exact fun h => bL (bL h) | exact fun h => bL (bL (bL h)))) rfl (by repeat (first | exact OpL.nil | refine OpL.cons (Op1.of rfl (by first | exact fun _ => rfl | exact fun h => h | exact fun h => bL h | exact fun h => bL (bL h) | exact fun h => bL (bL (bL h)))) ?_)) c50 rfl (fun _ => hcmp _) ?_ (vs := [Fl (at_ xs h), Fl (at_ xs a)]))
      intro w1 hx1
      have hx1 := (Ext.drew W).trans hx1
      refine ⟨hx1, ?_⟩
      refine rd ?_
      refine GM.nil ?_
      have hoz1 := hoz.to hx1
      have hb11 := hb1.ext hx1 hBW
      have hBz1 := Nat.le_trans hBW hx1.size
      by_cases hc2 : K (at_ xs h) < K (at_ xs a)
      · rw [decide_eq_true ((cmpI_lt _ _).2 hc2)]
        refine rn ?_
        refine sAd tb ?_
        refine rn ?_
        exact G.lp (x := (i, j)) (h + 1, j) (by repeat (first | exact Sub.nil _ | refine Sub.cons rfl ?_)) ⟨hb11, hBz1, hoz1, by show m ≤ h + 1; omega, by show h + 1 ≤ j; omega, hjb, fun p h3 h4 => by
          have h4 : p < h + 1 := h4
          by_cases e : p = h
          · rw [e]; omega
          · have := h2 p h h3 (by omega) (by omega); omega, hhi⟩ (by show j - (h + 1) < j - i; omega)
      · rw [decide_eq_false (fun hh' => hc2 ((cmpI_lt _ _).1 hh'))]
        refine rn ?_
        exact G.lp (x := (i, j)) (i, h) (by repeat (first | exact Sub.nil _ | refine Sub.cons rfl ?_)) ⟨hb11, hBz1, hoz1, hmi, hhi2.1, by show h ≤ b; omega, hlo, fun p h3 h4 => by
          have h3 : h ≤ p := h3
          by_cases e : p = h
          · rw [e]; omega
          · have := h2 h p (by omega) (by omega) h4; omega⟩ (by show h - i < j - i; omega)
    rw [decide_eq_false (show ¬ ((i : Nat) : Int) < j by omega)]
    have hije : i = j := by omega
    subst hije
    refine rn ?_
    refine (G.loop (fun x : Nat × List Nat => [(0, none, v), (10, none, .int .i64 i), (13, none, .int .i64 x.1)]) (fun x W => Below B w W ∧ B ≤ W.heap.size ∧ a ≤ x.1 ∧ x.1 ≤ i - 1 ∧ FlO W B v x.2 ∧ MvU a x.1 xs x.2) (fun x => i - x.1) (a, xs) (by repeat (first | exact Sub.nil _ | refine Sub.cons rfl ?_)) ⟨hb1, hBW, Nat.le_refl _, by show a ≤ i - 1; omega, hoz, MvU.start _ _⟩ ?_)
    clear hb1 hBW hoz W
    rintro ⟨k, zs⟩ W ⟨hb1, hBW, hak, hki, hoz, hmv⟩
    simp only at hak hki hoz hmv ⊢
    have hzl := hmv.perm.length_eq
    have hzm : (zs.map fC).length = zs.length := List.length_map ..
    refine rn ?_
    refine sAd tb (r := ((i - 1 : Nat) : Int)) ?_ (hp := (wrap_i64 (n := ((i : Nat) : Int) - 1) (by omega) (by omega)).trans (by omega))
    refine rn ?_
    first | refine G.condD rfl (fun hc => ?_) (fun hc => ?_) | refine G.condN rfl (fun hc => ?_) (fun hc => ?_) | refine G.cond rfl (fun hc => ?_) (fun hc => ?_)
    · have hkl : k < i - 1 := by omega
      have hgk : (zs.map fC)[k]? = some [Fl (at_ zs k)] := by rw [List.getElem?_map, at_get (by omega)]; rfl
      have hgk1 : (zs.map fC)[k + 1]? = some [Fl (at_ zs (k + 1))] := by rw [List.getElem?_map, at_get (by omega)]; rfl
      have hwj : IntKind.i64.wrap (((k : Nat) : Int) + 1) = ((k + 1 : Nat) : Int) := (wrap_i64 (n := ((k : Nat) : Int) + 1) (by omega) (by omega)).trans (by omega)
      refine rn ?_
      refine G.regionG (fun _ => True) mixed trivial ?_
      have ho1 := hoz.to (Ext.drew W)
      have hbx1 := hb1.ext (Ext.drew W) hBW
      have hBz : B ≤ W.drew.heap.size := Nat.le_trans hBW (Ext.drew W).size
      generalize W.drew = w2 at ho1 hbx1 hBz ⊢
      have hs2 := ho1.sli
      refine GD.steps ([(0, true), (1, true), (2, true), (3, true), (4, true), (5, true), (6, true), (7, true), (8, true), (10, true), (11, true), (12, true)]) (by kernel_rfl) (by kernel_rfl) rfl ?_
      refine rd ?_
      refine dAd tb (r := ((k + 1 : Nat) : Int)) ?_ (hp := hwj)
      refine rd ?_
      refine dAd tb (r := ((k + 1 : Nat) : Int)) ?_ (hp := hwj)
      refine dIa tb (k + 1) ?_ (hj := fun _ => ⟨rfl, by rw [hzm]; omega⟩)
      refine rd ?_
      refine dIa tb (k) ?_ (hj := fun _ => ⟨rfl, by rw [hzm]; omega⟩)
      refine rd ?_
      refine GM.nil ?_
      refine GD.join [0, 1, 2, 3, 4, 5, 6, 7, 8, 9, 10, 11, 12, 13] (fun _ : Unit => [(0, none, v), (10, none, .int .i64 i), (13, none, .int .i64 k), (61, none, v), (62, none, .int .i64 ((k : Nat) : Int)), (63, none, v), (65, none, .int .i64 ((k + 1 : Nat) : Int)), (70, none, Fl (at_ zs (k + 1))), (74, none, Fl (at_ zs (k)))]) (fun _ w' => w' = w2) ?_ fun meet => ?_
      rotate_left
      · refine GD.two (9) (13) (by kernel_rfl) (by kernel_rfl) rfl rfl ?_ ?_
        · refine (Step.load1 tb rfl (Op1.of rfl (by first | exact fun _ => rfl | exact fun h => h | exact fun h => bL h | exact fun h => bL (bL h) | exact fun h => bL (bL (bL h)))) rfl rfl (fun _ => (Sli.elem hs2 hgk1).c0 rfl) rfl ?_)
          refine ⟨trivial, ?_⟩
          refine GD.steps ([(13, false)]) (by kernel_rfl) (by kernel_rfl) rfl ?_
          refine GM.eff (Step.load1 tb rfl (Op1.of rfl (by first | exact fun _ => rfl | exact fun h => h | exact fun h => bL h | exact fun h => bL (bL h) | exact fun h => bL (bL (bL h)))) rfl rfl (fun _ => (Sli.elem hs2 hgk).c0 rfl) rfl ?_)
          refine ⟨trivial, ?_⟩
          refine GM.nil ?_
          exact meet () _ _ _ rfl rfl (by repeat (first | exact Sub.nil _ | refine Sub.cons rfl ?_)) rfl
        · refine (Step.load1 tb rfl (Op1.of rfl (by first | exact fun _ => rfl | exact fun h => h | exact fun h => bL h | exact fun h => bL (bL h) | exact fun h => bL (bL (bL h)))) rfl rfl (fun _ => (Sli.elem hs2 hgk).c0 rfl) rfl ?_)
          refine ⟨trivial, ?_⟩
          refine GD.steps ([(9, false)]) (by kernel_rfl) (by kernel_rfl) rfl ?_
          refine GM.eff (Step.load1 tb rfl (Op1.of rfl (by first | exact fun _ => rfl | exact fun h => h | exact fun h => bL h | exact fun h => bL (bL h) | exact fun h => bL (bL (bL h)))) rfl rfl (fun _ => (Sli.elem hs2 hgk1).c0 rfl) rfl ?_)
          refine ⟨trivial, ?_⟩
          refine GM.nil ?_
          exact meet () _ _ _ rfl rfl (by repeat (first | exact Sub.nil _ | refine Sub.cons rfl ?_)) rfl
      rintro _ w3 hw3
      obtain rfl : w2 = w3 := hw3.symm
      refine GD.steps ([(14, true), (15, false), (16, true), (17, false)]) (by kernel_rfl) (by kernel_rfl) rfl ?_
      refine dIa tb (k) ?_ (hj := fun _ => ⟨rfl, by rw [hzm]; omega⟩)
      refine GM.eff (Step.storeRow (j := k) (vs := fC (at_ zs (k + 1))) tb rfl (Op1.of rfl (by first | exact fun _ => rfl | exact fun h => h | exact fun h => bL h | exact fun h => bL (bL h) | exact fun h => bL (bL (bL h)))) (Op1.of rfl (by first | exact fun _ => rfl | exact fun h => h | exact fun h => bL h | exact fun h => bL (bL h) | exact fun h => bL (bL (bL h)))) rfl rfl rfl (f1 [at_ zs (k + 1)] _ (List.mem_cons_self ..)) ho1 (by rw [hzm]; omega) ?_)
      intro w4 ho4 hg4
      have hb4 := hg4.below _ hbx1
      refine ⟨trivial, ?_⟩
      refine dIa tb (k + 1) ?_ (hj := fun _ => ⟨rfl, by rw [hzm]; omega⟩)
      refine GM.eff (Step.storeRow (j := k + 1) (vs := fC (at_ zs (k))) tb rfl (Op1.of rfl (by first | exact fun _ => rfl | exact fun h => h | exact fun h => bL h | exact fun h => bL (bL h) | exact fun h => bL (bL (bL h)))) (Op1.of rfl (by first | exact fun _ => rfl | exact fun h => h | exact fun h => bL h | exact fun h => bL (bL h) | exact fun h => bL (bL (bL h)))) rfl rfl rfl (f1 [at_ zs (k)] _ (List.mem_cons_self ..)) ho4 (by rw [List.length_set, hzm]; omega) ?_)
      intro w5 ho5 hg5
      rw [set2] at ho5
      have ho5 : FlO w5 B v (swp zs (k) (k + 1)) := ho5
      have hb5 := hg5.below _ hb4
      have hBz5 : B ≤ w5.heap.size := Nat.le_trans hBz (Nat.le_trans hg4.size hg5.size)
      refine ⟨trivial, ?_⟩
      refine GM.nil ?_
      refine GD.done (by kernel_rfl) ?_
      refine rn ?_
      refine sAd tb ?_
      refine rn ?_
      exact G.lp (x := (k, zs)) (k + 1, swp zs k (k + 1)) (by repeat (first | exact Sub.nil _ | refine Sub.cons rfl ?_)) ⟨hb5, hBz5, by show a ≤ k + 1; omega, by show k + 1 ≤ i - 1; omega, ho5, hmv.step hak (by omega)⟩ (by show i - (k + 1) < i - k; omega)
    · have hke : k = i - 1 := by omega
      subst hke
      rw [hma] at h2 hlo
      obtain ⟨t1, t2⟩ := hmv.sorted (by omega) hjb h2 hlo hhi
      refine rn ?_
      refine G.ret0 rfl rfl rfl ?_
      exact ⟨zs, hoz, t1, t2, hb1, hBW⟩
  refine rn ?_
  refine sAd tb (r := ((b - m : Nat) : Int)) ?_ (hp := (wrap_i64 (n := ((b : Nat) : Int) - ((m : Nat) : Int)) (by omega) (by omega)).trans (by omega))
  refine rn ?_
  first | refine G.condD rfl (fun hc => ?_) (fun hc => ?_) | refine G.condN rfl (fun hc => ?_) (fun hc => ?_) | refine G.cond rfl (fun hc => ?_) (fun hc => ?_)
  · have hbm : b = m + 1 := by omega
    refine rn ?_
    refine (G.loop (fun x : Nat × Nat => [(0, none, v), (2, none, .int .i64 m), (4, none, CF), (14, none, .int .i64 x.1), (15, none, .int .i64 x.2)]) (fun x W => Below B w W ∧ B ≤ W.heap.size ∧ FlO W B v xs ∧ a ≤ x.1 ∧ x.1 ≤ x.2 ∧ x.2 ≤ m ∧ (∀ p, a ≤ p → p < x.1 → K (at_ xs p) ≤ K (at_ xs m)) ∧ ∀ p, x.2 ≤ p → p < m → K (at_ xs m) ≤ K (at_ xs p)) (fun x => x.2 - x.1) (a, m) (by repeat (first | exact Sub.nil _ | refine Sub.cons rfl ?_)) ⟨Below.refl _ _, hB, ho, Nat.le_refl _, Nat.le_of_lt ham, Nat.le_refl _, fun p h3 h4 => by have h4 : p < a := h4; omega, fun p h3 h4 => by have h3 : m ≤ p := h3; omega⟩ ?_)
    clear ho hB
    rintro ⟨i, j⟩ W ⟨hb1, hBW, hoz, hmi, hij, hjb, hlo, hhi⟩
    simp only at hmi hij hjb hlo hhi ⊢
    refine rn ?_
    by_cases hlt : i < j
    · rw [decide_eq_true (show ((i : Nat) : Int) < j by omega)]
      obtain ⟨h, hh⟩ : ∃ h, h = (i + j) / 2 := ⟨_, rfl⟩
      have hhi2 : i ≤ h ∧ h < j := by omega
      have hsl := hoz.sli
      have hgh := hgx h (by omega)
      have hgm := hgx m (by omega)
      have hcmp := fun W' => cmpQ_ok (at_ xs m) (at_ xs h) _ _ (hKa m (by omega)) (hKa h (by omega)) W'
      refine rn ?_
      refine sAd tb (r := ((i + j : Nat) : Int)) ?_
      refine sCv tb (r := ((i + j : Nat) : Int)) ?_ (hr := wrap_u64 (by omega) (by omega))
      refine sShr (a := ((i + j : Nat) : Int)) (n := 1) (r := ((h : Nat) : Int)) (by rw [hh]; omega) ?_
      refine sCv tb (r := ((h : Nat) : Int)) ?_ (hr := wrap_i64 (by omega) (by omega))
      refine rn ?_
      refine G.regionM [(0, true), (1, true), (2, true), (3, true), (4, true), (5, true), (6, true), (7, true), (8, true), (9, false), (10, true), (11, true)] (Ext W) (by kernel_rfl) (by kernel_rfl) rfl mixed (Ext.drew W) rfl ?_
      refine rd ?_
      refine dIa tb m ?_ (hj := fun _ => ⟨rfl, by rw [hxm]; omega⟩)
      refine rd ?_
      refine dIa tb h ?_ (hj := fun _ => ⟨rfl, by rw [hxm]; omega⟩)
      refine rd ?_
      refine GM.eff (Step.callXC rfl (Op1.of rfl (by first | exact fun _ => rfl | exact fun h => h | exact fun h => bL h | exact fun h => bL (bL h) | exact fun h => bL (bL (bL h)))) rfl (by repeat (first | exact OpL.nil | refine OpL.cons (Op1.of rfl (by first | exact fun _ => rfl | exact fun h => h | exact fun h => bL h | exact fun h => bL (bL h) | exact fun h => bL (bL (bL h)))) ?_)) c50 rfl (fun _ => hcmp _) ?_ (vs := [Fl (at_ xs m), Fl (at_ xs h)]))
      intro w1 hx1
      have hx1 := (Ext.drew W).trans hx1
      refine ⟨hx1, ?_⟩
      refine rd ?_
      refine GM.nil ?_
      have hoz1 := hoz.to hx1
      have hb11 := hb1.ext hx1 hBW
      have hBz1 := Nat.le_trans hBW hx1.size
      by_cases hc2 : K (at_ xs m) < K (at_ xs h)
      · rw [decide_eq_true ((cmpI_lt _ _).2 hc2)]
        refine rn ?_
        exact G.lp (x := (i, j)) (i, h) (by repeat (first | exact Sub.nil _ | refine Sub.cons rfl ?_)) ⟨hb11, hBz1, hoz1, hmi, hhi2.1, by show h ≤ m; omega, hlo, fun p h3 h4 => by
          have h3 : h ≤ p := h3
          by_cases e : p = h
          · rw [e]; omega
          · have := h1 h p (by omega) (by omega) h4; omega⟩ (by show h - i < j - i; omega)
      · rw [decide_eq_false (fun hh' => hc2 ((cmpI_lt _ _).1 hh'))]
        refine rn ?_
        refine sAd tb ?_
        refine rn ?_
        exact G.lp (x := (i, j)) (h + 1, j) (by repeat (first | exact Sub.nil _ | refine Sub.cons rfl ?_)) ⟨hb11, hBz1, hoz1, by show a ≤ h + 1; omega, by show h + 1 ≤ j; omega, hjb, fun p h3 h4 => by
          have h4 : p < h + 1 := h4
          by_cases e : p = h
          · rw [e]; omega
          · have := h1 p h h3 (by omega) (by omega); omega, hhi⟩ (by show j - (h + 1) < j - i; omega)
    rw [decide_eq_false (show ¬ ((i : Nat) : Int) < j by omega)]
    have hije : i = j := by omega
    subst hije
    refine rn ?_
    refine (G.loop (fun x : Nat × List Nat => [(0, none, v), (14, none, .int .i64 i), (17, none, .int .i64 x.1)]) (fun x W => Below B w W ∧ B ≤ W.heap.size ∧ i ≤ x.1 ∧ x.1 ≤ m ∧ FlO W B v x.2 ∧ MvD m x.1 xs x.2) (fun x => x.1) (m, xs) (by repeat (first | exact Sub.nil _ | refine Sub.cons rfl ?_)) ⟨hb1, hBW, hjb, Nat.le_refl _, hoz, MvD.start _ _⟩ ?_)
    clear hb1 hBW hoz W
    rintro ⟨k, zs⟩ W ⟨hb1, hBW, hak, hki, hoz, hmv⟩
    simp only at hak hki hoz hmv ⊢
    have hzl := hmv.perm.length_eq
    have hzm : (zs.map fC).length = zs.length := List.length_map ..
    refine rn ?_
    first | refine G.condD rfl (fun hc => ?_) (fun hc => ?_) | refine G.condN rfl (fun hc => ?_) (fun hc => ?_) | refine G.cond rfl (fun hc => ?_) (fun hc => ?_)
    · have hkl : i < k := by omega
      have hgk : (zs.map fC)[k]? = some [Fl (at_ zs k)] := by rw [List.getElem?_map, at_get (by omega)]; rfl
      have hgk1 : (zs.map fC)[k - 1]? = some [Fl (at_ zs (k - 1))] := by rw [List.getElem?_map, at_get (by omega)]; rfl
      have hwj : IntKind.i64.wrap (((k : Nat) : Int) - 1) = ((k - 1 : Nat) : Int) := (wrap_i64 (n := ((k : Nat) : Int) - 1) (by omega) (by omega)).trans (by omega)
      refine rn ?_
      refine G.regionG (fun _ => True) mixed trivial ?_
      have ho1 := hoz.to (Ext.drew W)
      have hbx1 := hb1.ext (Ext.drew W) hBW
      have hBz : B ≤ W.drew.heap.size := Nat.le_trans hBW (Ext.drew W).size
      generalize W.drew = w2 at ho1 hbx1 hBz ⊢
      have hs2 := ho1.sli
      refine GD.steps ([(0, true), (1, true), (2, true), (3, true), (4, true), (5, true), (6, true), (7, true), (8, true), (10, true), (11, true), (12, true)]) (by kernel_rfl) (by kernel_rfl) rfl ?_
      refine rd ?_
      refine dAd tb (r := ((k - 1 : Nat) : Int)) ?_ (hp := hwj)
      refine rd ?_
      refine dAd tb (r := ((k - 1 : Nat) : Int)) ?_ (hp := hwj)
      refine dIa tb (k - 1) ?_ (hj := fun _ => ⟨rfl, by rw [hzm]; omega⟩)
      refine rd ?_
      refine dIa tb (k) ?_ (hj := fun _ => ⟨rfl, by rw [hzm]; omega⟩)
      refine rd ?_
      refine GM.nil ?_
      refine GD.join [0, 1, 2, 3, 4, 5, 6, 7, 8, 9, 10, 11, 12, 13] (fun _ : Unit => [(0, none, v), (14, none, .int .i64 i), (17, none, .int .i64 k), (113, none, v), (114, none, .int .i64 ((k : Nat) : Int)), (115, none, v), (117, none, .int .i64 ((k - 1 : Nat) : Int)), (122, none, Fl (at_ zs (k - 1))), (126, none, Fl (at_ zs (k)))]) (fun _ w' => w' = w2) ?_ fun meet => ?_
      rotate_left
      · refine GD.two (9) (13) (by kernel_rfl) (by kernel_rfl) rfl rfl ?_ ?_
        · refine (Step.load1 tb rfl (Op1.of rfl (by first | exact fun _ => rfl | exact fun h => h | exact fun h => bL h | exact fun h => bL (bL h) | exact fun h => bL (bL (bL h)))) rfl rfl (fun _ => (Sli.elem hs2 hgk1).c0 rfl) rfl ?_)
          refine ⟨trivial, ?_⟩
          refine GD.steps ([(13, false)]) (by kernel_rfl) (by kernel_rfl) rfl ?_
          refine GM.eff (Step.load1 tb rfl (Op1.of rfl (by first | exact fun _ => rfl | exact fun h => h | exact fun h => bL h | exact fun h => bL (bL h) | exact fun h => bL (bL (bL h)))) rfl rfl (fun _ => (Sli.elem hs2 hgk).c0 rfl) rfl ?_)
          refine ⟨trivial, ?_⟩
          refine GM.nil ?_
          exact meet () _ _ _ rfl rfl (by repeat (first | exact Sub.nil _ | refine Sub.cons rfl ?_)) rfl
        · refine (Step.load1 tb rfl (Op1.of rfl (by first | exact fun _ => rfl | exact fun h => h | exact fun h => bL h | exact fun h => bL (bL h) | exact fun h => bL (bL (bL h)))) rfl rfl (fun _ => (Sli.elem hs2 hgk).c0 rfl) rfl ?_)
          refine ⟨trivial, ?_⟩
          refine GD.steps ([(9, false)]) (by kernel_rfl) (by kernel_rfl) rfl ?_
          refine GM.eff (Step.load1 tb rfl (Op1.of rfl (by first | exact fun _ => rfl | exact fun h => h | exact fun h => bL h | exact fun h => bL (bL h) | exact fun h => bL (bL (bL h)))) rfl rfl (fun _ => (Sli.elem hs2 hgk1).c0 rfl) rfl ?_)
          refine ⟨trivial, ?_⟩
          refine GM.nil ?_
          exact meet () _ _ _ rfl rfl (by repeat (first | exact Sub.nil _ | refine Sub.cons rfl ?_)) rfl
      rintro _ w3 hw3
      obtain rfl : w2 = w3 := hw3.symm
      refine GD.steps ([(14, true), (15, false), (16, true), (17, false)]) (by kernel_rfl) (by kernel_rfl) rfl ?_
      refine dIa tb (k) ?_ (hj := fun _ => ⟨rfl, by rw [hzm]; omega⟩)
      refine GM.eff (Step.storeRow (j := k) (vs := fC (at_ zs (k - 1))) tb rfl (Op1.of rfl (by first | exact fun _ => rfl | exact fun h => h | exact fun h => bL h | exact fun h => bL (bL h) | exact fun h => bL (bL (bL h)))) (Op1.of rfl (by first | exact fun _ => rfl | exact fun h => h | exact fun h => bL h | exact fun h => bL (bL h) | exact fun h => bL (bL (bL h)))) rfl rfl rfl (f1 [at_ zs (k - 1)] _ (List.mem_cons_self ..)) ho1 (by rw [hzm]; omega) ?_)
      intro w4 ho4 hg4
      have hb4 := hg4.below _ hbx1
      refine ⟨trivial, ?_⟩
      refine dIa tb (k - 1) ?_ (hj := fun _ => ⟨rfl, by rw [hzm]; omega⟩)
      refine GM.eff (Step.storeRow (j := k - 1) (vs := fC (at_ zs (k))) tb rfl (Op1.of rfl (by first | exact fun _ => rfl | exact fun h => h | exact fun h => bL h | exact fun h => bL (bL h) | exact fun h => bL (bL (bL h)))) (Op1.of rfl (by first | exact fun _ => rfl | exact fun h => h | exact fun h => bL h | exact fun h => bL (bL h) | exact fun h => bL (bL (bL h)))) rfl rfl rfl (f1 [at_ zs (k)] _ (List.mem_cons_self ..)) ho4 (by rw [List.length_set, hzm]; omega) ?_)
      intro w5 ho5 hg5
      rw [set2] at ho5
      have ho5 : FlO w5 B v (swp zs (k) (k - 1)) := ho5
      have hb5 := hg5.below _ hb4
      have hBz5 : B ≤ w5.heap.size := Nat.le_trans hBz (Nat.le_trans hg4.size hg5.size)
      refine ⟨trivial, ?_⟩
      refine GM.nil ?_
      refine GD.done (by kernel_rfl) ?_
      refine rn ?_
      refine sAd tb (r := ((k - 1 : Nat) : Int)) ?_ (hp := hwj)
      refine rn ?_
      exact G.lp (x := (k, zs)) (k - 1, swp zs k (k - 1)) (by repeat (first | exact Sub.nil _ | refine Sub.cons rfl ?_)) ⟨hb5, hBz5, by show i ≤ k - 1; omega, by show k - 1 ≤ m; omega, ho5, hmv.step (by omega) hki (by omega)⟩ (by show k - 1 < k; omega)
    · have hke : k = i := by omega
      subst hke
      obtain ⟨t1, t2⟩ := hmv.sorted hmi (by omega) h1 hlo hhi
      rw [← hbm] at t1 t2
      refine rn ?_
      refine G.ret0 rfl rfl rfl ?_
      exact ⟨zs, hoz, t1, t2, hb1, hBW⟩
  refine rn ?_
  obtain ⟨mid, hmidd⟩ : ∃ mid, mid = (a + b) / 2 := ⟨_, rfl⟩
  have hmid1 : a < mid := by omega
  have hmid2 : mid < b := by omega
  refine sAd tb (r := ((a + b : Nat) : Int)) ?_
  refine sCv tb (r := ((a + b : Nat) : Int)) ?_ (hr := wrap_u64 (by omega) (by omega))
  refine sShr (a := ((a + b : Nat) : Int)) (n := 1) (r := ((mid : Nat) : Int)) (by rw [hmidd]; omega) ?_
  refine sCv tb (r := ((mid : Nat) : Int)) ?_ (hr := wrap_i64 (by omega) (by omega))
  refine rn ?_
  refine sAd tb (r := ((mid + m : Nat) : Int)) ?_
  refine rn ?_
  refine G.join (fun z : Nat × Nat => [(0, none, v), (1, none, .int .i64 a), (2, none, .int .i64 m), (3, none, .int .i64 b), (4, none, CF), (18, none, .int .i64 mid), (19, none, .int .i64 ((mid + m : Nat) : Int)), (20, none, .int .i64 z.1), (21, none, .int .i64 z.2)]) (fun z W => w = W ∧ ((mid < m ∧ z.1 = mid + m - b ∧ z.2 = mid) ∨ (m ≤ mid ∧ z.1 = a ∧ z.2 = m))) ?_ ?_
  rotate_left
  · first | refine G.condD rfl (fun hc => ?_) (fun hc => ?_) | refine G.condN rfl (fun hc => ?_) (fun hc => ?_) | refine G.cond rfl (fun hc => ?_) (fun hc => ?_)
    · refine rn ?_
      refine sAd tb (r := ((mid + m - b : Nat) : Int)) ?_ (hp := (wrap_i64 (n := ((mid + m : Nat) : Int) - ((b : Nat) : Int)) (by omega) (by omega)).trans (by omega))
      refine rn ?_
      exact G.met (mid + m - b, mid) (by repeat (first | exact Sub.nil _ | refine Sub.cons rfl ?_)) ⟨rfl, .inl ⟨by omega, rfl, rfl⟩⟩
    · refine rn ?_
      exact G.met (a, m) (by repeat (first | exact Sub.nil _ | refine Sub.cons rfl ?_)) ⟨rfl, .inr ⟨by omega, rfl, rfl⟩⟩
  rintro ⟨s0, r0⟩ _ ⟨rfl, hcase⟩
  simp only at hcase ⊢
  have hb0 : s0 ≤ r0 ∧ a ≤ s0 ∧ r0 ≤ m ∧ r0 ≤ mid ∧ mid + m ≤ b + s0 := by omega
  obtain ⟨hsr0, has0, hr0m, hr0d, hnb⟩ := hb0
  refine rn ?_
  refine sAd tb (r := ((mid + m - 1 : Nat) : Int)) ?_ (hp := (wrap_i64 (n := ((mid + m : Nat) : Int) - 1) (by omega) (by omega)).trans (by omega))
  refine rn ?_
  refine (G.loop (fun x : Nat × Nat => [(0, none, v), (1, none, .int .i64 a), (2, none, .int .i64 m), (3, none, .int .i64 b), (4, none, CF), (18, none, .int .i64 mid), (19, none, .int .i64 ((mid + m : Nat) : Int)), (20, none, .int .i64 x.1), (21, none, .int .i64 x.2), (22, none, .int .i64 ((mid + m - 1 : Nat) : Int))]) (fun x W => Below B w W ∧ B ≤ W.heap.size ∧ FlO W B v xs ∧ s0 ≤ x.1 ∧ x.1 ≤ x.2 ∧ x.2 ≤ r0 ∧ (∀ c, s0 ≤ c → c < x.1 → K (at_ xs c) ≤ K (at_ xs (mid + m - 1 - c))) ∧ ∀ c, x.2 ≤ c → c < r0 → K (at_ xs (mid + m - 1 - c)) ≤ K (at_ xs c)) (fun x => x.2 - x.1) (s0, r0) (by repeat (first | exact Sub.nil _ | refine Sub.cons rfl ?_)) ⟨Below.refl _ _, hB, ho, Nat.le_refl _, hsr0, Nat.le_refl _, fun c h3 h4 => by have h4 : c < s0 := h4; omega, fun c h3 h4 => by have h3 : r0 ≤ c := h3; omega⟩ ?_)
  clear ho hB
  rintro ⟨s, r⟩ W ⟨hb1, hBW, hoz, hs0, hsr, hrr, hlo, hhi⟩
  simp only at hs0 hsr hrr hlo hhi ⊢
  refine rn ?_
  by_cases hlt : s < r
  · rw [decide_eq_true (show ((s : Nat) : Int) < r by omega)]
    obtain ⟨c, hcc⟩ : ∃ c, c = (s + r) / 2 := ⟨_, rfl⟩
    have hc1 : s ≤ c ∧ c < r := by omega
    have hsl := hoz.sli
    have hgc := hgx c (by omega)
    have hgp := hgx (mid + m - 1 - c) (by omega)
    have hcmp := fun W' => cmpQ_ok (at_ xs (mid + m - 1 - c)) (at_ xs c) _ _ (hKa _ (by omega)) (hKa c (by omega)) W'
    refine rn ?_
    refine sAd tb (r := ((s + r : Nat) : Int)) ?_
    refine sCv tb (r := ((s + r : Nat) : Int)) ?_ (hr := wrap_u64 (by omega) (by omega))
    refine sShr (a := ((s + r : Nat) : Int)) (n := 1) (r := ((c : Nat) : Int)) (by rw [hcc]; omega) ?_
    refine sCv tb (r := ((c : Nat) : Int)) ?_ (hr := wrap_i64 (by omega) (by omega))
    refine rn ?_
    refine G.regionM [(0, true), (1, true), (2, true), (3, true), (4, true), (5, true), (6, true), (7, true), (8, true), (9, true), (10, true), (11, false), (12, true), (13, true)] (Ext W) (by kernel_rfl) (by kernel_rfl) rfl mixed (Ext.drew W) rfl ?_
    refine rd ?_
    refine dAd tb (r := ((mid + m - 1 - c : Nat) : Int)) ?_ (hp := (wrap_i64 (n := ((mid + m - 1 : Nat) : Int) - ((c : Nat) : Int)) (by omega) (by omega)).trans (by omega))
    refine dIa tb (mid + m - 1 - c) ?_ (hj := fun _ => ⟨rfl, by rw [hxm]; omega⟩)
    refine rd ?_
    refine dIa tb c ?_ (hj := fun _ => ⟨rfl, by rw [hxm]; omega⟩)
    refine rd ?_
    refine GM.eff (Step.callXC rfl (Op1.of rfl (by first | exact fun _ => rfl | exact fun h => h | exact fun h => bL h | exact fun h => bL (bL h) | exact fun h => bL (bL (bL h)))) rfl (by repeat (first | exact OpL.nil | refine OpL.cons (Op1.of rfl (by first | exact fun _ => rfl | exact fun h => h | exact fun h => bL h | exact fun h => bL (bL h) | exact fun h => bL (bL (bL h)))) ?_)) c50 rfl (fun _ => hcmp _) ?_ (vs := [Fl (at_ xs (mid + m - 1 - c)), Fl (at_ xs c)]))
    intro w1 hx1
    have hx1 := (Ext.drew W).trans hx1
    refine ⟨hx1, ?_⟩
    refine rd ?_
    refine GM.nil ?_
    have hoz1 := hoz.to hx1
    have hb11 := hb1.ext hx1 hBW
    have hBz1 := Nat.le_trans hBW hx1.size
    by_cases hc2 : K (at_ xs (mid + m - 1 - c)) < K (at_ xs c)
    · rw [decide_eq_true ((cmpI_lt _ _).2 hc2)]
      refine rn ?_
      exact G.lp (x := (s, r)) (s, c) (by repeat (first | exact Sub.nil _ | refine Sub.cons rfl ?_)) ⟨hb11, hBz1, hoz1, hs0, hc1.1, by show c ≤ r0; omega, hlo, fun p h3 h4 => by
        have h3 : c ≤ p := h3
        by_cases e : p = c
        · rw [e]; omega
        · have y1 := h1 c p (by omega) (by omega) (by omega)
          have y2 := h2 (mid + m - 1 - p) (mid + m - 1 - c) (by omega) (by omega) (by omega)
          omega⟩ (by show c - s < r - s; omega)
    · rw [decide_eq_false (fun hh' => hc2 ((cmpI_lt _ _).1 hh'))]
      refine rn ?_
      refine sAd tb ?_
      refine rn ?_
      exact G.lp (x := (s, r)) (c + 1, r) (by repeat (first | exact Sub.nil _ | refine Sub.cons rfl ?_)) ⟨hb11, hBz1, hoz1, by show s0 ≤ c + 1; omega, by show c + 1 ≤ r; omega, hrr, fun p h3 h4 => by
        have h4 : p < c + 1 := h4
        by_cases e : p = c
        · rw [e]; omega
        · have y1 := h1 p c (by omega) (by omega) (by omega)
          have y2 := h2 (mid + m - 1 - c) (mid + m - 1 - p) (by omega) (by omega) (by omega)
          omega, hhi⟩ (by show r - (c + 1) < r - s; omega)
  rw [decide_eq_false (show ¬ ((s : Nat) : Int) < r by omega)]
  have hsre : s = r := by omega
  subst hsre
  obtain ⟨e, he⟩ : ∃ e, e = mid + m - s := ⟨_, rfl⟩
  have hef : a ≤ s ∧ s ≤ m ∧ m ≤ e ∧ e ≤ b ∧ s ≤ mid ∧ mid = s + (e - m) := by omega
  obtain ⟨has, hsm, hme, heb, hsd, hmd⟩ := hef
  have hx1 : a < s → e < b → K (at_ xs (s - 1)) ≤ K (at_ xs e) := fun y1 y2 => by
    have := hlo (s - 1) (by omega) (by omega)
    rwa [show mid + m - 1 - (s - 1) = e by omega] at this
  have hx2 : m < e → s < m → K (at_ xs (e - 1)) ≤ K (at_ xs s) := fun y1 y2 => by
    have := hhi s (Nat.le_refl _) (by omega)
    rwa [show mid + m - 1 - s = e - 1 by omega] at this
  have hsp := fun ys (hr : Rot s m e xs ys) => sym_split ham hmb has hsm hme heb hmd h1 h2 hx1 hx2 hr
  clear hlo hhi hx1 hx2 hcase
  refine rn ?_
  refine sAd tb (r := ((e : Nat) : Int)) ?_ (hp := (wrap_i64 (n := ((mid + m : Nat) : Int) - ((s : Nat) : Int)) (by omega) (by omega)).trans (by omega))
  refine rn ?_
  refine G.join (fun _ : Unit => [(0, none, v), (1, none, .int .i64 a), (3, none, .int .i64 b), (4, none, CF), (18, none, .int .i64 mid), (20, none, .int .i64 s), (24, none, .int .i64 e)]) (fun _ W => Below B w W ∧ B ≤ W.heap.size ∧ ∃ ys, FlO W B v ys ∧ Rot s m e xs ys) ?_ ?_
  rotate_left
  · refine G.cond rfl (fun hc => ?_) (fun hc => ?_)
    · simp only [Bool.and_eq_true, decide_eq_true_eq] at hc
      refine rn ?_
      refine sCall c112 (rotate_ok s m e B v xs W hoz hBW (by omega) (by omega) (by omega) (by omega)) ?_
      rintro _ W2 ⟨ys, hoy, hro, hb2, hB2⟩
      refine rn ?_
      exact G.met () (by repeat (first | exact Sub.nil _ | refine Sub.cons rfl ?_)) ⟨Below.trans hb1 hb2, hB2, ys, hoy, hro⟩
    · simp only [Bool.and_eq_false_iff, decide_eq_false_iff_not] at hc
      refine rn ?_
      exact G.met () (by repeat (first | exact Sub.nil _ | refine Sub.cons rfl ?_)) ⟨hb1, hBW, xs, hoz, Rot.same (by omega)⟩
  clear hb1 hBW hoz W
  rintro _ W ⟨hb1, hBW, ys, hoy, hro⟩
  obtain ⟨t0, q1, q2, q3, q4, q5⟩ := hsp ys hro
  have hyl := t0.len
  have hgy := hK.trn t0
  refine rn ?_
  refine G.join (fun _ : Unit => [(0, none, v), (3, none, .int .i64 b), (4, none, CF), (18, none, .int .i64 mid), (24, none, .int .i64 e)]) (fun _ W => Below B w W ∧ B ≤ W.heap.size ∧ ∃ us, FlO W B v us ∧ Trn a mid ys us ∧ Srt K a mid us) ?_ ?_
  rotate_left
  · refine G.cond rfl (fun hc => ?_) (fun hc => ?_)
    · simp only [Bool.and_eq_true, decide_eq_true_eq] at hc
      refine rn ?_
      refine sCall c104 (hrec a s mid ys W (by omega) (by omega) (by omega) (by omega) (by omega) hgy hoy hBW q1 q2) ?_
      rintro _ W2 ⟨us, hou, t1, t2, hb2, hB2⟩
      refine rn ?_
      exact G.met () (by repeat (first | exact Sub.nil _ | refine Sub.cons rfl ?_)) ⟨Below.trans hb1 hb2, hB2, us, hou, t1, t2⟩
    · simp only [Bool.and_eq_false_iff, decide_eq_false_iff_not] at hc
      refine rn ?_
      refine G.met () (by repeat (first | exact Sub.nil _ | refine Sub.cons rfl ?_)) ⟨hb1, hBW, ys, hoy, Trn.refl _ _ _, ?_⟩
      rcases (show s = a ∨ s = mid by omega) with y | y
      · rw [y] at q2; exact q2
      · rw [y] at q1; exact q1
  clear hb1 hBW hoy W
  rintro _ W ⟨hb1, hBW, us, hou, u1, u2⟩
  have hul := u1.len
  have hgu := hgy.trn u1
  have v3 : Srt K mid e us := fun p q y1 y2 y3 => by rw [u1.out p (by omega), u1.out q (by omega)]; exact q3 p q y1 y2 y3
  have v4 : Srt K e b us := fun p q y1 y2 y3 => by rw [u1.out p (by omega), u1.out q (by omega)]; exact q4 p q y1 y2 y3
  refine rn ?_
  refine G.cond rfl (fun hc => ?_) (fun hc => ?_)
  · simp only [Bool.and_eq_true, decide_eq_true_eq] at hc
    refine rn ?_
    refine sCall c104 (hrec mid e b us W (by omega) (by omega) (by omega) (by omega) (by omega) hgu hou hBW v3 v4) ?_
    rintro _ W2 ⟨zs, hoz, t1, t2, hb2, hB2⟩
    obtain ⟨z1, z2⟩ := sym_join (by omega) (by omega) q5 (by omega) u1 u2 t1 t2
    refine rn ?_
    refine G.end0 rfl rfl rfl ?_
    exact ⟨zs, hoz, t0.trans z1, z2, Below.trans hb1 hb2, hB2⟩
  · simp only [Bool.and_eq_false_iff, decide_eq_false_iff_not] at hc
    have v5 : Srt K mid b us := by
      rcases (show e = b ∨ e = mid by omega) with y | y
      · rw [y] at v3; exact v3
      · rw [y] at v4; exact v4
    obtain ⟨z1, z2⟩ := sym_join (by omega) (by omega) q5 (by omega) u1 u2 (Trn.refl mid b us) v5
    refine rn ?_
    refine G.end0 rfl rfl rfl ?_
    exact ⟨us, hou, t0.trans z1, z2, hb1, hBW⟩
end Go.Proofs.Ytbnckhfkkoncbaa
end
section
open Go Go.Vg Go.RowKit Go.Proofs Go.Proofs.Ytbnckhfkkoncbaa
namespace Go.Proofs.Ytbnckhfkkoncbaa

theorem sym_ok (K : Nat → Int) (v : Value) (B : Nat) : ∀ (d a m b : Nat) (xs : List Nat) (W : World), b - a ≤ d → a < m → m < b → b ≤ xs.length → xs.length ≤ 1000 → Good K xs → FlO W B v xs → B ≤ W.heap.size → Srt K a m xs → Srt K m b xs → SymC K v B a m b xs W
  | 0, a, m, b, xs, W, hd, h1, h2, _, _, _, _, _, _, _ => by omega
  | d + 1, a, m, b, xs, W, hd, h1, h2, h3, h4, hK, ho, hB, s1, s2 =>
    symS_ok K a m b B v xs W ho hB hK h1 h2 h3 h4 s1 s2 fun a' m' b' xs' W' k0 k1 k2 k3 k4 k5 k6 k7 k8 k9 => sym_ok K v B d a' m' b' xs' W' (by omega) k1 k2 k3 k4 k5 k6 k7 k8 k9
/-- sorted in blocks of so many, up to e -/
def Blk (K : Nat → Int) (q e : Nat) (xs : List Nat) : Prop := ∀ k, Srt K (k * q) (min (k * q + q) e) xs
set_option maxHeartbeats 4000000 in
theorem stableN_ok (K : Nat → Int) (B : Nat) (v : Value) (xs : List Nat) (n : Nat) (w : World) (ho : FlO w B v xs) (hB : B ≤ w.heap.size) (hK : Good K xs) (hn : xs.length = n) (hn2 : n ≤ 900) :
    Ret Try.prog 88 ⟨[v, .int .i64 n, CF]⟩ w fun _ w' => ∃ ys, FlO w' B v ys ∧ ys.Perm xs ∧ Srt K 0 n ys ∧ Below B w w' ∧ B ≤ w'.heap.size := by
  refine ret_of_G Try.func88 rfl Try.ntmps88 rfl ?_
  simp only [argEnv]
  refine rn ?_
  refine (G.loop (fun x : Nat × List Nat => [(0, none, v), (1, none, .int .i64 n), (2, none, CF), (6, none, .int .i64 20), (7, none, .int .i64 ((x.1 * 20 : Nat) : Int)), (8, none, .int .i64 ((x.1 * 20 + 20 : Nat) : Int))]) (fun x W => Below B w W ∧ B ≤ W.heap.size ∧ FlO W B v x.2 ∧ x.2.Perm xs ∧ x.1 * 20 ≤ n + 20 ∧ (0 < x.1 → x.1 * 20 ≤ n) ∧ ∀ k, k < x.1 → Srt K (k * 20) (k * 20 + 20) x.2) (fun x => n + 20 - x.1 * 20) (0, xs) (by repeat (first | exact Sub.nil _ | refine Sub.cons rfl ?_)) ⟨Below.refl _ _, hB, ho, List.Perm.refl _, by show 0 * 20 ≤ n + 20; omega, fun h => by have h : 0 < 0 := h; omega, fun k h => by have h : k < 0 := h; omega⟩ ?_)
  clear ho hB
  rintro ⟨i, ys⟩ W ⟨hb1, hBW, hoy, hpm, hin, hin2, hbk⟩
  simp only at hoy hpm hin hin2 hbk ⊢
  have hyl := hpm.length_eq
  have hgy : Good K ys := fun x hx => hK x (hpm.subset hx)
  refine rn ?_
  first | refine G.condD rfl (fun hc => ?_) (fun hc => ?_) | refine G.condN rfl (fun hc => ?_) (fun hc => ?_) | refine G.cond rfl (fun hc => ?_) (fun hc => ?_)
  · refine rn ?_
    refine sCall c103 (insN_ok K (i * 20) (i * 20 + 20) B v ys W hoy hBW hgy (by omega) (by omega) (by omega)) ?_
    rintro _ W2 ⟨zs, hoz, t1, t2, hb2, hB2⟩
    refine rn ?_
    refine sAd tb (r := (((i + 1) * 20 + 20 : Nat) : Int)) ?_ (hp := (wrap_i64 (n := ((i * 20 + 20 : Nat) : Int) + 20) (by omega) (by omega)).trans (by omega))
    refine rn ?_
    refine G.lp (x := (i, ys)) (i + 1, zs) ?_ ⟨Below.trans hb1 hb2, hB2, hoz, t1.perm.trans hpm, by show (i + 1) * 20 ≤ n + 20; omega, fun _ => by show (i + 1) * 20 ≤ n; omega, fun k hk p q y1 y2 y3 => ?_⟩ (by show n + 20 - (i + 1) * 20 < n + 20 - i * 20; omega)
    · show Vg.Sub _ _
      simp only [show (i + 1) * 20 = i * 20 + 20 by omega]
      exact ((by repeat (first | exact Sub.nil _ | refine Sub.cons rfl ?_)))
    · have hk : k < i + 1 := hk
      by_cases e : k = i
      · subst e; exact t2 p q y1 y2 y3
      · show K (at_ zs p) ≤ K (at_ zs q)
        rw [t1.out p (by omega), t1.out q (by omega)]; exact hbk k (by omega) p q y1 y2 y3
  refine rn ?_
  refine sCall c103 (insN_ok K (i * 20) n B v ys W hoy hBW hgy (by omega) (by omega) (by omega)) ?_
  rintro _ W1 ⟨zs, hoz, t1, t2, hb2, hB2⟩
  have hblk : Blk K 20 n zs := fun k p q y1 y2 y3 => by
    by_cases e : k < i
    · rw [t1.out p (by omega), t1.out q (by omega)]; exact hbk k e p q y1 y2 (by omega)
    · exact t2 p q (by omega) y2 (by omega)
  have hb02 := Below.trans hb1 hb2
  have hpz := t1.perm.trans hpm
  clear hb1 hBW hoy hpm hbk hgy t1 t2 hb2
  refine rn ?_
  refine (G.loop (fun x : Nat × List Nat => [(0, none, v), (1, none, .int .i64 n), (2, none, CF), (6, none, .int .i64 x.1)]) (fun x W => Below B w W ∧ B ≤ W.heap.size ∧ FlO W B v x.2 ∧ x.2.Perm xs ∧ 1 ≤ x.1 ∧ x.1 ≤ 2000 ∧ Blk K x.1 n x.2) (fun x => n - x.1) (20, zs) (by repeat (first | exact Sub.nil _ | refine Sub.cons rfl ?_)) ⟨hb02, hB2, hoz, hpz, by show 1 ≤ 20; omega, by show 20 ≤ 2000; omega, hblk⟩ ?_)
  clear hb02 hB2 hoz hpz hblk
  rintro ⟨q, us⟩ W ⟨hb1, hBW, hou, hpm, hq1, hq2, hblk⟩
  simp only at hou hpm hq1 hq2 hblk ⊢
  refine rn ?_
  first | refine G.condD rfl (fun hc => ?_) (fun hc => ?_) | refine G.condN rfl (fun hc => ?_) (fun hc => ?_) | refine G.cond rfl (fun hc => ?_) (fun hc => ?_)
  · have hqn : q < n := by omega
    refine rn ?_
    refine sAd tb (r := ((2 * q : Nat) : Int)) ?_ (hp := (wrap_i64 (n := 2 * ((q : Nat) : Int)) (by omega) (by omega)).trans (by omega))
    refine rn ?_
    refine (G.loop (fun x : Nat × Nat × List Nat => [(0, none, v), (1, none, .int .i64 n), (2, none, CF), (6, none, .int .i64 q), (7, none, .int .i64 x.2.1), (8, none, .int .i64 ((2 * q + x.2.1 : Nat) : Int))]) (fun x W => Below B w W ∧ B ≤ W.heap.size ∧ FlO W B v x.2.2 ∧ x.2.2.Perm xs ∧ x.2.1 = x.1 * (2 * q) ∧ x.2.1 ≤ n ∧ (∀ k, k < x.1 → Srt K (k * (2 * q)) (k * (2 * q) + 2 * q) x.2.2) ∧ ∀ k, 2 * x.1 ≤ k → Srt K (k * q) (min (k * q + q) n) x.2.2) (fun x => n - x.2.1) (0, 0, us) (by repeat (first | exact Sub.nil _ | refine Sub.cons rfl ?_)) ⟨hb1, hBW, hou, hpm, (Nat.zero_mul _).symm, Nat.zero_le _, fun k h => by have h : k < 0 := h; omega, fun k _ => hblk k⟩ ?_)
    clear hb1 hBW hou hpm hblk
    rintro ⟨j, A, zs⟩ W ⟨hb1, hBW, hoz, hpm, hA, hAn, hlow, hblk⟩
    simp only at hoz hpm hA hAn hlow hblk ⊢
    have hzl := hpm.length_eq
    have hgz : Good K zs := fun x hx => hK x (hpm.subset hx)
    have e1 : 2 * j * q = A := by rw [hA, Nat.mul_comm 2 j, Nat.mul_assoc]
    have e2 : (2 * j + 1) * q = A + q := by rw [Nat.add_mul, Nat.one_mul, e1]
    have e3 : (j + 1) * (2 * q) = A + 2 * q := by rw [Nat.add_mul, Nat.one_mul, ← hA]
    have b1 := hblk (2 * j) (Nat.le_refl _)
    have b2 := hblk (2 * j + 1) (by omega)
    rw [e1] at b1
    rw [e2] at b2
    have hlow2 : ∀ k, k < j → k * (2 * q) + 2 * q ≤ A := fun k hk => by
      have : (k + 1) * (2 * q) ≤ j * (2 * q) := Nat.mul_le_mul_right _ hk
      rw [Nat.add_mul, Nat.one_mul, ← hA] at this
      exact this
    have hhi2 : ∀ k, 2 * (j + 1) ≤ k → A + 2 * q ≤ k * q := fun k hk => by
      have : 2 * (j + 1) * q ≤ k * q := Nat.mul_le_mul_right _ hk
      rw [Nat.mul_comm 2 (j + 1), Nat.mul_assoc, e3] at this
      exact this
    refine rn ?_
    first | refine G.condD rfl (fun hc => ?_) (fun hc => ?_) | refine G.condN rfl (fun hc => ?_) (fun hc => ?_) | refine G.cond rfl (fun hc => ?_) (fun hc => ?_)
    · refine rn ?_
      refine sAd tb (r := ((A + q : Nat) : Int)) ?_ (hp := (wrap_i64 (n := ((A : Nat) : Int) + ((q : Nat) : Int)) (by omega) (by omega)).trans (by omega))
      refine rn ?_
      refine sCall c104 (sym_ok K v B (2 * q) A (A + q) (2 * q + A) zs W (by omega) (by omega) (by omega) (by omega) (by omega) hgz hoz hBW (fun p r y1 y2 y3 => b1 p r y1 y2 (by omega)) (fun p r y1 y2 y3 => b2 p r y1 y2 (by omega))) ?_
      rintro _ W2 ⟨ts, hot, t1, t2, hb2, hB2⟩
      refine rn ?_
      refine sAd tb (r := ((2 * q : Nat) : Int)) ?_ (hp := (wrap_i64 (n := 2 * ((q : Nat) : Int)) (by omega) (by omega)).trans (by omega))
      refine sAd tb (r := ((2 * q + (2 * q + A) : Nat) : Int)) ?_ (hp := (wrap_i64 (n := ((2 * q + A : Nat) : Int) + ((2 * q : Nat) : Int)) (by omega) (by omega)).trans (by omega))
      refine rn ?_
      exact G.lp (x := (j, A, zs)) (j + 1, 2 * q + A, ts) (by repeat (first | exact Sub.nil _ | refine Sub.cons rfl ?_)) ⟨Below.trans hb1 hb2, hB2, hot, t1.perm.trans hpm, by show 2 * q + A = (j + 1) * (2 * q); omega, by show 2 * q + A ≤ n; omega, fun k hk => by
        have hk : k < j + 1 := hk
        by_cases e : k = j
        · subst e; rw [← hA, Nat.add_comm A]; exact t2
        · have := hlow2 k (by omega)
          exact fun p r y1 y2 y3 => by
            show K (at_ ts p) ≤ K (at_ ts r)
            rw [t1.out p (by omega), t1.out r (by omega)]; exact hlow k (by omega) p r y1 y2 y3, fun k hk => by
        have := hhi2 k hk
        exact fun p r y1 y2 y3 => by
          show K (at_ ts p) ≤ K (at_ ts r)
          rw [t1.out p (by omega), t1.out r (by omega)]; exact hblk k (by have hk : 2 * (j + 1) ≤ k := hk; omega) p r y1 y2 y3⟩ (by show n - (2 * q + A) < n - A; omega)
    refine rn ?_
    refine sAd tb (r := ((A + q : Nat) : Int)) ?_ (hp := (wrap_i64 (n := ((A : Nat) : Int) + ((q : Nat) : Int)) (by omega) (by omega)).trans (by omega))
    refine rn ?_
    refine G.join (fun _ : Unit => [(0, none, v), (1, none, .int .i64 n), (2, none, CF), (6, none, .int .i64 q)]) (fun _ W => Below B w W ∧ B ≤ W.heap.size ∧ ∃ ts, FlO W B v ts ∧ Trn A n zs ts ∧ Srt K A n ts) ?_ ?_
    rotate_left
    · first | refine G.condD rfl (fun hc => ?_) (fun hc => ?_) | refine G.condN rfl (fun hc => ?_) (fun hc => ?_) | refine G.cond rfl (fun hc => ?_) (fun hc => ?_)
      · refine rn ?_
        refine sCall c104 (sym_ok K v B (2 * q) A (A + q) n zs W (by omega) (by omega) (by omega) (by omega) (by omega) hgz hoz hBW (fun p r y1 y2 y3 => b1 p r y1 y2 (by omega)) (fun p r y1 y2 y3 => b2 p r y1 y2 (by omega))) ?_
        rintro _ W2 ⟨ts, hot, t1, t2, hb2, hB2⟩
        refine rn ?_
        exact G.met () (by repeat (first | exact Sub.nil _ | refine Sub.cons rfl ?_)) ⟨Below.trans hb1 hb2, hB2, ts, hot, t1, t2⟩
      · refine rn ?_
        exact G.met () (by repeat (first | exact Sub.nil _ | refine Sub.cons rfl ?_)) ⟨hb1, hBW, zs, hoz, Trn.refl _ _ _, fun p r y1 y2 y3 => b1 p r y1 y2 (by omega)⟩
    clear hb1 hBW hoz W
    rintro _ W ⟨hb1, hBW, ts, hot, t1, t2⟩
    refine rn ?_
    refine sAd tb (r := ((2 * q : Nat) : Int)) ?_ (hp := (wrap_i64 (n := ((q : Nat) : Int) * 2) (by omega) (by omega)).trans (by omega))
    refine rn ?_
    refine G.lp (x := (q, us)) (2 * q, ts) (by repeat (first | exact Sub.nil _ | refine Sub.cons rfl ?_)) ⟨hb1, hBW, hot, t1.perm.trans hpm, by show 1 ≤ 2 * q; omega, by show 2 * q ≤ 2000; omega, fun k p r y1 y2 y3 => ?_⟩ (by show n - 2 * q < n - q; omega)
    have y1 : k * (2 * q) ≤ p := y1
    have y3 : r < min (k * (2 * q) + 2 * q) n := y3
    by_cases c1 : k < j
    · have := hlow2 k c1
      show K (at_ ts p) ≤ K (at_ ts r)
      rw [t1.out p (by omega), t1.out r (by omega)]; exact hlow k c1 p r y1 y2 (by omega)
    · have : j * (2 * q) ≤ k * (2 * q) := Nat.mul_le_mul_right _ (by omega)
      rw [← hA] at this
      exact t2 p r (by omega) y2 (by omega)
  · have b0 := hblk 0
    rw [Nat.zero_mul, Nat.zero_add] at b0
    refine rn ?_
    refine G.end0 rfl rfl rfl ?_
    exact ⟨us, hou, hpm, fun p r y1 y2 y3 => b0 p r (by omega) y2 (by omega), hb1, hBW⟩
theorem sortN_ok (K : Nat → Int) (B : Nat) (v : Value) (xs : List Nat) (w : World) (ho : FlO w B v xs) (hB : B ≤ w.heap.size) (hK : Good K xs) (hn2 : xs.length ≤ 900) :
    Ret Try.prog 49 ⟨[v, CF]⟩ w fun _ w' => ∃ ys, FlO w' B v ys ∧ ys.Perm xs ∧ Srt K 0 xs.length ys ∧ Below B w w' ∧ B ≤ w'.heap.size := by
  have hs := ho.sli
  have hlen : (xs.map fC).length = xs.length := List.length_map ..
  refine ret_of_G Try.func49 rfl Try.ntmps49 rfl ?_
  simp only [argEnv]
  refine rn ?_
  rw [hlen]
  refine rn ?_
  refine sCall c88 (stableN_ok K B v xs xs.length w ho hB hK rfl hn2) ?_
  rintro _ w1 hw1
  refine rn ?_
  refine G.end0 rfl rfl rfl ?_
  exact hw1
end Go.Proofs.Ytbnckhfkkoncbaa
end
section
namespace Go.Nm
open Go.Vg Ieee

theorem log2_bd {m : Nat} (h : 0 < m) : 2 ^ m.log2 ≤ m ∧ m < 2 ^ (m.log2 + 1) := ⟨Nat.log2_self_le (by omega), Nat.lt_log2_self⟩
/-- rounding to the nearest is off by half a unit at most -/
theorem cut_bd (n d : Nat) (hd : 1 ≤ d) (hl : d ≤ n.log2 + 2) (neg : Bool) : 2 * (Toward.even.cut neg n d * 2 ^ d) ≤ 2 * n + 2 ^ d ∧ 2 * n ≤ 2 * (Toward.even.cut neg n d * 2 ^ d) + 2 ^ d := by
  have e0 : Toward.even.cut neg n d = n / 2 ^ d + (decide (2 ^ d < 2 * (n % 2 ^ d)) || (2 ^ d == 2 * (n % 2 ^ d) && n / 2 ^ d % 2 == 1)).toNat := by
    unfold Toward.cut
    simp only
    rw [Nat.min_eq_left hl, Nat.one_shiftLeft]
  have hdm := Nat.div_add_mod n (2 ^ d)
  have hml := Nat.mod_lt n (Nat.two_pow_pos d)
  rw [e0]
  obtain ⟨P, hP⟩ : ∃ P, P = 2 ^ d := ⟨_, rfl⟩
  rw [← hP] at hdm hml ⊢
  obtain ⟨q, hq⟩ : ∃ q, q = n / P := ⟨_, rfl⟩
  obtain ⟨r, hr⟩ : ∃ r, r = n % P := ⟨_, rfl⟩
  rw [← hq, ← hr] at hdm ⊢
  rw [← hr] at hml
  rw [Nat.mul_comm] at hdm
  obtain ⟨Z, hZ⟩ : ∃ Z, Z = q * P := ⟨_, rfl⟩
  cases hb : (decide (P < 2 * r) || (P == 2 * r && q % 2 == 1))
  · have h1 : ¬ P < 2 * r := by
      intro h
      rw [decide_eq_true h] at hb
      simp at hb
    show 2 * ((q + 0) * P) ≤ _ ∧ _ ≤ 2 * ((q + 0) * P) + P
    rw [Nat.add_zero, ← hZ]
    rw [← hZ] at hdm
    omega
  · have h1 : P ≤ 2 * r := by
      simp only [Bool.or_eq_true, Bool.and_eq_true, decide_eq_true_eq, beq_iff_eq] at hb
      omega
    show 2 * ((q + 1) * P) ≤ _ ∧ _ ≤ 2 * ((q + 1) * P) + P
    rw [Nat.add_mul, Nat.one_mul, ← hZ]
    rw [← hZ] at hdm
    omega
theorem vB_rung {K m : Nat} (h1 : 2 ^ 52 ≤ m) (h2 : m ≤ 2 ^ 53) : vB (K * 2 ^ 52 + m) = 2 * m * 2 ^ K := by
  rcases Nat.lt_or_eq_of_le h2 with h | h
  · obtain ⟨p1, p2⟩ := parts_of (K := K) (m := m) h (.inl h1)
    unfold vB
    rw [p1, p2]
  · subst h
    obtain ⟨p1, p2⟩ := parts_of (K := K + 1) (m := 2 ^ 52) (by decide) (.inl (Nat.le_refl _))
    have e : K * 2 ^ 52 + 2 ^ 53 = (K + 1) * 2 ^ 52 + 2 ^ 52 := by omega
    unfold vB
    rw [e, p1, p2, Nat.pow_succ]
    omega
set_option maxRecDepth 20000 in
theorem near_rel {mag : Nat} {place : Int} (hm : 0 < mag) (h1 : -1022 ≤ place + mag.log2) (h2 : place + mag.log2 ≤ 1000) :
    ∃ T, double.nearest false mag place = T ∧ 0 < T ∧ T < infB ∧ ∀ a b : Nat, (b : Int) = place + 1075 + a → 2 ^ 53 * (vB T * 2 ^ a) ≤ (2 ^ 53 + 1) * (mag * 2 ^ b) ∧ (2 ^ 53 - 1) * (mag * 2 ^ b) ≤ 2 ^ 53 * (vB T * 2 ^ a) := by
  obtain ⟨l1, l2⟩ := log2_bd hm
  obtain ⟨L, hL⟩ : ∃ L, L = mag.log2 := ⟨_, rfl⟩
  rw [← hL] at h1 h2 l1 l2
  obtain ⟨K, hK⟩ : ∃ K : Nat, (K : Int) = place + L - 52 + 1074 := ⟨(place + L - 52 + 1074).toNat, by omega⟩
  have hlast : max (place + (L : Int) - 52) (-1074) = place + L - 52 := by omega
  -- the digits kept
  obtain ⟨kept, hk, hk1, hk2, hkr⟩ : ∃ kept, Toward.even.cut false (mag <<< (place - (place + L - 52)).toNat) (place + L - 52 - place).toNat = kept ∧ 2 ^ 52 ≤ kept ∧ kept ≤ 2 ^ 53 ∧ ∀ a b : Nat, (b : Int) = place + 1075 + a → 2 ^ 53 * (2 * kept * 2 ^ K * 2 ^ a) ≤ (2 ^ 53 + 1) * (mag * 2 ^ b) ∧ (2 ^ 53 - 1) * (mag * 2 ^ b) ≤ 2 ^ 53 * (2 * kept * 2 ^ K * 2 ^ a) := by
    by_cases hL52 : L ≤ 52
    · refine ⟨mag * 2 ^ (52 - L), ?_, ?_, ?_, fun a b hb => ?_⟩
      · rw [show (place - (place + L - 52)).toNat = 52 - L by omega, show (place + (L : Int) - 52 - place).toNat = 0 by omega, Nat.shiftLeft_eq]
        unfold Toward.cut
        simp [Nat.mod_one]
      · have : 2 ^ 52 = 2 ^ L * 2 ^ (52 - L) := by rw [← Nat.pow_add]; congr 1; omega
        rw [this]
        exact Nat.mul_le_mul_right _ l1
      · have : 2 ^ 53 = 2 ^ (L + 1) * 2 ^ (52 - L) := by rw [← Nat.pow_add]; congr 1; omega
        rw [this]
        exact Nat.mul_le_mul_right _ (Nat.le_of_lt l2)
      · have e : 2 * (mag * 2 ^ (52 - L)) * 2 ^ K * 2 ^ a = mag * 2 ^ b := by
          have : 2 ^ b = 2 * 2 ^ (52 - L) * 2 ^ K * 2 ^ a := by
            rw [show 2 * 2 ^ (52 - L) = 2 ^ (52 - L + 1) by rw [Nat.pow_succ, Nat.mul_comm], ← Nat.pow_add, ← Nat.pow_add]
            congr 1; omega
          rw [this]
          simp only [Nat.mul_assoc, Nat.mul_left_comm]
        rw [e]
        exact ⟨Nat.mul_le_mul_right _ (by decide), Nat.mul_le_mul_right _ (by decide)⟩
    · obtain ⟨D, hD⟩ : ∃ D, D = L - 52 := ⟨_, rfl⟩
      have hc := cut_bd mag D (by omega) (by rw [← hL]; omega) false
      rw [show (place - (place + L - 52)).toNat = 0 by omega, show (place + (L : Int) - 52 - place).toNat = D by omega, Nat.shiftLeft_eq, Nat.pow_zero, Nat.mul_one]
      obtain ⟨kept, hkk⟩ : ∃ kept, kept = Toward.even.cut false mag D := ⟨_, rfl⟩
      rw [← hkk] at hc ⊢
      have hp : 2 ^ L = 2 ^ 52 * 2 ^ D := by rw [← Nat.pow_add]; congr 1; omega
      have hpD := Nat.two_pow_pos D
      obtain ⟨P, hP⟩ : ∃ P, P = 2 ^ D := ⟨_, rfl⟩
      rw [Nat.pow_succ] at l2
      rw [hp] at l1 l2
      rw [← hP] at hc l1 l2 hpD
      have hlow : 2 ^ 52 ≤ kept := by
        refine Decidable.byContradiction fun h => ?_
        have : (kept + 1) * P ≤ 2 ^ 52 * P := Nat.mul_le_mul_right _ (by omega)
        rw [Nat.add_mul] at this
        omega
      have hhigh : kept ≤ 2 ^ 53 := by
        refine Decidable.byContradiction fun h => ?_
        have : (2 ^ 53 + 1) * P ≤ kept * P := Nat.mul_le_mul_right _ (by omega)
        rw [Nat.add_mul] at this
        omega
      refine ⟨kept, rfl, hlow, hhigh, fun a b hb => ?_⟩
      have e : 2 * kept * 2 ^ K * 2 ^ a = kept * P * 2 ^ b := by
        have : P * 2 ^ b = 2 * 2 ^ K * 2 ^ a := by
          rw [hP, ← Nat.pow_add, show 2 * 2 ^ K = 2 ^ (K + 1) by rw [Nat.pow_succ, Nat.mul_comm], ← Nat.pow_add]
          congr 1; omega
        rw [Nat.mul_assoc kept, this]
        simp only [Nat.mul_assoc, Nat.mul_left_comm]
      rw [e]
      obtain ⟨Y, hY⟩ : ∃ Y, Y = kept * P := ⟨_, rfl⟩
      rw [← hY] at hc ⊢
      rw [← Nat.mul_assoc, ← Nat.mul_assoc, ← Nat.mul_assoc]
      exact ⟨Nat.mul_le_mul_right _ (by omega), Nat.mul_le_mul_right _ (by omega)⟩
  have hK2 : K ≤ 2022 := by omega
  refine ⟨K * 2 ^ 52 + kept, ?_, by omega, by unfold infB; omega, fun a b hb => ?_⟩
  · unfold Format.nearest
    rw [if_neg (by omega), ← hL, d_frac, d_least, d_bin, d_inf]
    simp only
    rw [show ((52 : Nat) : Int) = 52 from rfl, hlast, hk, show (place + (L : Int) - 52 - -1074).toNat = K by omega]
    have : double.word false (min (K * 4503599627370496 + kept) 9218868437227405312) = min (K * 4503599627370496 + kept) 9218868437227405312 + sgn false := word_rung _ _
    rw [this, Nat.min_eq_left (by omega), show sgn false = 0 from rfl]
    omega
  · rw [vB_rung hk1 hk2]
    exact hkr a b hb
end Go.Nm
end
section
namespace Go.Nm
open Go.Vg Ieee

/-- a float's number lies between 2 to the -100 and 2 to the 100 -/
structure Rng (R : Nat) : Prop where
  lt : R < infB
  lo : 2 ^ 975 ≤ vB R
  hi : vB R ≤ 2 ^ 1175
theorem read_pos {R : Nat} (h : R < infB) : double.read R = .number false (mB R) ((kB R : Int) - 1074) := read_rung false h
/-- v is x, but for a part in 2 to the 53 -/
def Rel (v x : Nat) : Prop := 2 ^ 53 * v ≤ (2 ^ 53 + 1) * x ∧ (2 ^ 53 - 1) * x ≤ 2 ^ 53 * v
theorem v_pow (R : Nat) : vB R = mB R * 2 ^ (kB R + 1) := by unfold vB; rw [Nat.pow_succ, Nat.mul_comm 2, Nat.mul_assoc, Nat.mul_comm 2]
theorem Rng.pos {R : Nat} (h : Rng R) : 0 < mB R := by
  refine Nat.pos_of_ne_zero fun e => ?_
  have := h.lo
  rw [v_pow, e, Nat.zero_mul] at this
  have := Nat.two_pow_pos 975
  omega
theorem pow_lt {a b m : Nat} (h1 : 2 ^ a ≤ m) (h2 : m < 2 ^ b) : a < b := (Nat.pow_lt_pow_iff_right (by decide : 1 < 2)).1 (Nat.lt_of_le_of_lt h1 h2)
theorem pow_le {a b m : Nat} (h1 : 2 ^ a ≤ m) (h2 : m ≤ 2 ^ b) : a ≤ b := (Nat.pow_le_pow_iff_right (by decide : 1 < 2)).1 (Nat.le_trans h1 h2)
/-- the nearest float of a number in range -/
theorem near_in {mag b X lo hi : Nat} {place : Int} (hm : 0 < mag) (e : mag * 2 ^ b = X) (h1 : 2 ^ lo ≤ X) (h2 : X ≤ 2 ^ hi) (hl : place - b + lo ≥ -1000) (hh : place - b + hi ≤ 1000) : -1022 ≤ place + mag.log2 ∧ place + mag.log2 ≤ 1000 := by
  obtain ⟨l1, l2⟩ := log2_bd hm
  have a1 : 2 ^ (mag.log2 + b) ≤ X := by rw [← e, Nat.pow_add]; exact Nat.mul_le_mul_right _ l1
  have a2 : X < 2 ^ (mag.log2 + 1 + b) := by rw [← e, Nat.pow_add]; exact Nat.mul_lt_mul_of_pos_right l2 (Nat.two_pow_pos b)
  have b1 := pow_le a1 h2
  have b2 := pow_lt h1 a2
  omega
set_option exponentiation.threshold 4000 in
theorem mul_rel {R Q : Nat} (hR : Rng R) (hQ : Rng Q) : ∃ T, floatBits .mul .f64 R Q = some T ∧ 0 < T ∧ T < infB ∧ Rel (vB T * 2 ^ 1075) (vB R * vB Q) := by
  have e : mB R * mB Q * 2 ^ (kB R + kB Q + 2) = vB R * vB Q := by
    rw [v_pow, v_pow, show kB R + kB Q + 2 = (kB R + 1) + (kB Q + 1) by omega, Nat.pow_add]
    simp only [Nat.mul_assoc, Nat.mul_left_comm]
  have h1 : 2 ^ 1950 ≤ vB R * vB Q := by rw [show 1950 = 975 + 975 from rfl, Nat.pow_add]; exact Nat.mul_le_mul hR.lo hQ.lo
  have h2 : vB R * vB Q ≤ 2 ^ 2350 := by rw [show 2350 = 1175 + 1175 from rfl, Nat.pow_add]; exact Nat.mul_le_mul hR.hi hQ.hi
  obtain ⟨r1, r2⟩ := near_in (place := ((kB R : Int) - 1074) + ((kB Q : Int) - 1074)) (Nat.mul_pos hR.pos hQ.pos) e h1 h2 (by omega) (by omega)
  obtain ⟨T, t1, t2, t3, t4⟩ := near_rel (Nat.mul_pos hR.pos hQ.pos) r1 r2
  refine ⟨T, ?_, t2, t3, ?_⟩
  · show ((double.read R).product (double.read Q)).map double.write = some T
    rw [read_pos hR.lt, read_pos hQ.lt]
    exact congrArg some t1
  · have := t4 1075 (kB R + kB Q + 2) (by omega)
    rw [e] at this
    exact this
theorem signed_pos (m k : Nat) : Ieee.signed false m k = ((m * 2 ^ k : Nat) : Int) := by rw [signed_sg]; unfold sg; simp
set_option exponentiation.threshold 4000 in
theorem add_rel {R Q : Nat} (hR : Rng R) (hQ : Rng Q) : ∃ T, floatBits .add .f64 R Q = some T ∧ 0 < T ∧ T < infB ∧ Rel (vB T) (vB R + vB Q) := by
  obtain ⟨g, hg⟩ : ∃ g, g = min (kB R) (kB Q) := ⟨_, rfl⟩
  obtain ⟨mag, hmag⟩ : ∃ mag, mag = mB R * 2 ^ (kB R - g) + mB Q * 2 ^ (kB Q - g) := ⟨_, rfl⟩
  have e : mag * 2 ^ (g + 1) = vB R + vB Q := by
    rw [v_pow, v_pow, hmag, Nat.add_mul, Nat.mul_assoc, Nat.mul_assoc, ← Nat.pow_add, ← Nat.pow_add, show kB R - g + (g + 1) = kB R + 1 by omega, show kB Q - g + (g + 1) = kB Q + 1 by omega]
  have hp : 0 < mag := by
    have := Nat.mul_pos hR.pos (Nat.two_pow_pos (kB R - g))
    omega
  have h1 : 2 ^ 975 ≤ vB R + vB Q := Nat.le_trans hR.lo (Nat.le_add_right _ _)
  have h2 : vB R + vB Q ≤ 2 ^ 1176 := by
    have a := hR.hi
    have b := hQ.hi
    rw [show 1176 = 1175 + 1 from rfl, Nat.pow_succ]
    omega
  have hmin : min ((kB R : Int) - 1074) ((kB Q : Int) - 1074) = (g : Int) - 1074 := by omega
  obtain ⟨r1, r2⟩ := near_in (place := (g : Int) - 1074) hp e h1 h2 (by omega) (by omega)
  obtain ⟨T, t1, t2, t3, t4⟩ := near_rel hp r1 r2
  refine ⟨T, ?_, t2, t3, ?_⟩
  · show ((double.read R).sum (double.read Q)).map double.write = some T
    rw [read_pos hR.lt, read_pos hQ.lt]
    unfold Datum.sum
    simp only
    rw [hmin, show ((kB R : Int) - 1074 - ((g : Int) - 1074)).toNat = kB R - g by omega, show ((kB Q : Int) - 1074 - ((g : Int) - 1074)).toNat = kB Q - g by omega, signed_pos, signed_pos, ← Int.natCast_add, ← hmag]
    have hz : ¬ ((mag : Nat) : Int) = 0 := by omega
    have hn : decide (((mag : Nat) : Int) < 0) = false := decide_eq_false (by omega)
    rw [if_neg hz, hn, Int.natAbs_natCast]
    exact congrArg some t1
  · have := t4 0 (g + 1) (by omega)
    rw [e, Nat.pow_zero, Nat.mul_one] at this
    exact this
end Go.Nm
end
section
namespace Go.Nm
open Go.Vg Ieee

/-- v stands for p / q, but for k parts in 2 to the 40; u stands for 1 -/
def Ap (u k v p q : Nat) : Prop := 2 ^ 40 * (v * q) ≤ (2 ^ 40 + k) * (p * u) ∧ (2 ^ 40 - k) * (p * u) ≤ 2 ^ 40 * (v * q)
theorem Ap.exact (u n : Nat) : Ap u 0 (n * u) n 1 := by
  unfold Ap
  rw [Nat.mul_one]
  exact ⟨Nat.le_refl _, Nat.le_refl _⟩
/-- from c1 X ≤ c2 Y -/
theorem to_k {X Y c1 c2 k : Nat} (hc : 0 < c1) (h : c1 * X ≤ c2 * Y) (hn : c2 * 2 ^ 40 ≤ (2 ^ 40 + k) * c1) : 2 ^ 40 * X ≤ (2 ^ 40 + k) * Y := by
  have h1 := Nat.mul_le_mul_left (2 ^ 40) h
  have h2 := Nat.mul_le_mul_right Y hn
  have e1 : 2 ^ 40 * (c1 * X) = c1 * (2 ^ 40 * X) := Nat.mul_left_comm ..
  have e2 : 2 ^ 40 * (c2 * Y) = c2 * 2 ^ 40 * Y := by rw [← Nat.mul_assoc, Nat.mul_comm (2 ^ 40) c2]
  have e3 : (2 ^ 40 + k) * c1 * Y = c1 * ((2 ^ 40 + k) * Y) := by rw [Nat.mul_comm _ c1, Nat.mul_assoc]
  rw [e1, e2] at h1
  rw [e3] at h2
  exact Nat.le_of_mul_le_mul_left (Nat.le_trans h1 h2) hc
theorem from_k {X Y c1 c2 k : Nat} (hc : 0 < c1) (h : c2 * Y ≤ c1 * X) (hn : (2 ^ 40 - k) * c1 ≤ c2 * 2 ^ 40) : (2 ^ 40 - k) * Y ≤ 2 ^ 40 * X := by
  have h1 := Nat.mul_le_mul_left (2 ^ 40) h
  have h2 := Nat.mul_le_mul_right Y hn
  have e1 : 2 ^ 40 * (c1 * X) = c1 * (2 ^ 40 * X) := Nat.mul_left_comm ..
  have e2 : 2 ^ 40 * (c2 * Y) = c2 * 2 ^ 40 * Y := by rw [← Nat.mul_assoc, Nat.mul_comm (2 ^ 40) c2]
  have e3 : (2 ^ 40 - k) * c1 * Y = c1 * ((2 ^ 40 - k) * Y) := by rw [Nat.mul_comm _ c1, Nat.mul_assoc]
  rw [e1, e2] at h1
  rw [e3] at h2
  exact Nat.le_of_mul_le_mul_left (Nat.le_trans h2 h1) hc
theorem Ap.mul {u k1 k2 k r s t p1 q1 p2 q2 : Nat} (hu : 0 < u) (h1 : Ap u k1 r p1 q1) (h2 : Ap u k2 s p2 q2) (h : Rel (t * u) (r * s))
    (n1 : (2 ^ 53 + 1) * (2 ^ 40 + k1) * (2 ^ 40 + k2) * 2 ^ 40 ≤ (2 ^ 40 + k) * 2 ^ 133) (n2 : (2 ^ 40 - k) * 2 ^ 133 ≤ (2 ^ 53 - 1) * (2 ^ 40 - k1) * (2 ^ 40 - k2) * 2 ^ 40) : Ap u k t (p1 * p2) (q1 * q2) := by
  obtain ⟨a1, a2⟩ := h1
  obtain ⟨b1, b2⟩ := h2
  obtain ⟨c1, c2⟩ := h
  have m1 := Nat.mul_le_mul a1 b1
  have m2 := Nat.mul_le_mul a2 b2
  have d1 := Nat.mul_le_mul_right (q1 * q2) c1
  have d2 := Nat.mul_le_mul_right (q1 * q2) c2
  have f1 : 2 ^ 40 * (r * q1) * (2 ^ 40 * (s * q2)) = 2 ^ 80 * (r * s * (q1 * q2)) := by
    rw [show (2 : Nat) ^ 80 = 2 ^ 40 * 2 ^ 40 by decide]
    simp only [Nat.mul_assoc, Nat.mul_left_comm]
  have f2 : ∀ x y : Nat, x * (p1 * u) * (y * (p2 * u)) = x * y * (p1 * p2 * u * u) := fun x y => by
    simp only [Nat.mul_assoc, Nat.mul_left_comm]
  have f3 : ∀ x : Nat, x * (t * u) * (q1 * q2) = x * (t * (q1 * q2) * u) := fun x => by
    simp only [Nat.mul_assoc, Nat.mul_left_comm, Nat.mul_comm]
  have f4 : ∀ x : Nat, x * (r * s) * (q1 * q2) = x * (r * s * (q1 * q2)) := fun x => by rw [Nat.mul_assoc]
  rw [f1, f2] at m1 m2
  rw [f3, f4] at d1 d2
  obtain ⟨Z, hZ⟩ : ∃ Z, Z = r * s * (q1 * q2) := ⟨_, rfl⟩
  rw [← hZ] at m1 m2 d1 d2
  have e1 : 2 ^ 133 * (t * (q1 * q2) * u) ≤ (2 ^ 53 + 1) * (2 ^ 40 + k1) * (2 ^ 40 + k2) * (p1 * p2 * u * u) := by
    have x1 := Nat.mul_le_mul_left (2 ^ 80) d1
    have x2 := Nat.mul_le_mul_left (2 ^ 53 + 1) m1
    have y1 : 2 ^ 80 * (2 ^ 53 * (t * (q1 * q2) * u)) = 2 ^ 133 * (t * (q1 * q2) * u) := by rw [← Nat.mul_assoc]
    have y2 : 2 ^ 80 * ((2 ^ 53 + 1) * Z) = (2 ^ 53 + 1) * (2 ^ 80 * Z) := Nat.mul_left_comm ..
    rw [y1, y2] at x1
    refine Nat.le_trans x1 (Nat.le_trans x2 (Nat.le_of_eq ?_))
    simp only [Nat.mul_assoc]
  have e2 : (2 ^ 53 - 1) * (2 ^ 40 - k1) * (2 ^ 40 - k2) * (p1 * p2 * u * u) ≤ 2 ^ 133 * (t * (q1 * q2) * u) := by
    have x1 := Nat.mul_le_mul_left (2 ^ 80) d2
    have x2 := Nat.mul_le_mul_left (2 ^ 53 - 1) m2
    have y1 : 2 ^ 80 * (2 ^ 53 * (t * (q1 * q2) * u)) = 2 ^ 133 * (t * (q1 * q2) * u) := by rw [← Nat.mul_assoc]
    have y2 : 2 ^ 80 * ((2 ^ 53 - 1) * Z) = (2 ^ 53 - 1) * (2 ^ 80 * Z) := Nat.mul_left_comm ..
    rw [y1, y2] at x1
    refine Nat.le_trans (Nat.le_of_eq ?_) (Nat.le_trans x2 x1)
    simp only [Nat.mul_assoc]
  have g1 : 2 ^ 133 * (t * (q1 * q2)) ≤ (2 ^ 53 + 1) * (2 ^ 40 + k1) * (2 ^ 40 + k2) * (p1 * p2 * u) := by
    refine Nat.le_of_mul_le_mul_right (c := u) ?_ hu
    rw [Nat.mul_assoc (2 ^ 133), Nat.mul_assoc ((2 ^ 53 + 1) * (2 ^ 40 + k1) * (2 ^ 40 + k2))]; exact e1
  have g2 : (2 ^ 53 - 1) * (2 ^ 40 - k1) * (2 ^ 40 - k2) * (p1 * p2 * u) ≤ 2 ^ 133 * (t * (q1 * q2)) := by
    refine Nat.le_of_mul_le_mul_right (c := u) ?_ hu
    rw [Nat.mul_assoc (2 ^ 133), Nat.mul_assoc ((2 ^ 53 - 1) * (2 ^ 40 - k1) * (2 ^ 40 - k2))]; exact e2
  exact ⟨to_k (by decide) g1 n1, from_k (by decide) g2 n2⟩
theorem Ap.add {u k r s t p1 p2 q : Nat} (hk : k ≤ 1000) (h1 : Ap u k r p1 q) (h2 : Ap u k s p2 q) (h : Rel t (r + s)) : Ap u (k + 1) t (p1 + p2) q := by
  obtain ⟨a1, a2⟩ := h1
  obtain ⟨b1, b2⟩ := h2
  obtain ⟨c1, c2⟩ := h
  have d1 := Nat.mul_le_mul_right q c1
  have d2 := Nat.mul_le_mul_right q c2
  rw [Nat.mul_assoc, Nat.mul_assoc, Nat.add_mul r] at d1 d2
  unfold Ap
  rw [Nat.add_mul p1]
  obtain ⟨x, hx⟩ : ∃ x, x = r * q := ⟨_, rfl⟩
  obtain ⟨y, hy⟩ : ∃ y, y = s * q := ⟨_, rfl⟩
  obtain ⟨z, hz⟩ : ∃ z, z = t * q := ⟨_, rfl⟩
  obtain ⟨P, hP⟩ : ∃ P, P = p1 * u := ⟨_, rfl⟩
  obtain ⟨Q, hQ⟩ : ∃ Q, Q = p2 * u := ⟨_, rfl⟩
  rw [← hx] at a1 a2 d1 d2
  rw [← hy] at b1 b2 d1 d2
  rw [← hz] at d1 d2 ⊢
  rw [← hP] at a1 a2 ⊢
  rw [← hQ] at b1 b2 ⊢
  obtain ⟨Y, hY⟩ : ∃ Y, Y = P + Q := ⟨_, rfl⟩
  obtain ⟨X, hX⟩ : ∃ X, X = x + y := ⟨_, rfl⟩
  have m1 : 2 ^ 40 * X ≤ (2 ^ 40 + k) * Y := by
    rw [hX, hY, Nat.mul_add, Nat.mul_add]
    exact Nat.add_le_add a1 b1
  have m2 : (2 ^ 40 - k) * Y ≤ 2 ^ 40 * X := by
    rw [hX, hY, Nat.mul_add, Nat.mul_add]
    exact Nat.add_le_add a2 b2
  rw [← hX] at d1 d2
  rw [← hY]
  have kY : k * Y ≤ 1000 * Y := Nat.mul_le_mul_right _ hk
  rw [Nat.add_mul] at m1
  rw [Nat.sub_mul] at m2
  rw [show 2 ^ 40 + (k + 1) = 2 ^ 40 + k + 1 from rfl, Nat.add_mul, Nat.add_mul, Nat.one_mul, Nat.sub_mul, Nat.add_mul, Nat.one_mul]
  obtain ⟨W, hW⟩ : ∃ W, W = k * Y := ⟨_, rfl⟩
  rw [← hW] at m1 m2 kY ⊢
  constructor
  · omega
  · omega
/-- one stands below the other -/
theorem Ap.lt {u k1 k2 r s p1 q1 p2 q2 : Nat} (hu : 0 < u) (hq1 : 0 < q1) (hq2 : 0 < q2) (h1 : Ap u k1 r p1 q1) (h2 : Ap u k2 s p2 q2) (h : (2 ^ 40 + k1) * (p1 * q2) < (2 ^ 40 - k2) * (p2 * q1)) : r < s := by
  refine Decidable.byContradiction fun hn => ?_
  have hsr : s ≤ r := by omega
  have x1 := Nat.mul_le_mul_right q2 h1.1
  have x2 := Nat.mul_le_mul_right q1 h2.2
  have x3 : 2 ^ 40 * (s * q2) * q1 ≤ 2 ^ 40 * (r * q1) * q2 := by
    have := Nat.mul_le_mul_right (2 ^ 40 * (q1 * q2)) hsr
    have y1 : s * (2 ^ 40 * (q1 * q2)) = 2 ^ 40 * (s * q2) * q1 := by
      generalize 2 ^ 40 = a
      simp only [Nat.mul_assoc, Nat.mul_left_comm, Nat.mul_comm]
    have y2 : r * (2 ^ 40 * (q1 * q2)) = 2 ^ 40 * (r * q1) * q2 := by
      generalize 2 ^ 40 = a
      simp only [Nat.mul_assoc, Nat.mul_left_comm, Nat.mul_comm]
    rw [y1, y2] at this
    exact this
  have x4 : (2 ^ 40 - k2) * (p2 * q1) * u ≤ (2 ^ 40 + k1) * (p1 * q2) * u := by
    have y1 : (2 ^ 40 - k2) * (p2 * u) * q1 = (2 ^ 40 - k2) * (p2 * q1) * u := by
      generalize 2 ^ 40 - k2 = a
      simp only [Nat.mul_assoc, Nat.mul_left_comm, Nat.mul_comm]
    have y2 : (2 ^ 40 + k1) * (p1 * u) * q2 = (2 ^ 40 + k1) * (p1 * q2) * u := by
      generalize 2 ^ 40 + k1 = a
      simp only [Nat.mul_assoc, Nat.mul_left_comm, Nat.mul_comm]
    rw [y1] at x2
    rw [y2] at x1
    exact Nat.le_trans x2 (Nat.le_trans x3 x1)
  have := Nat.le_of_mul_le_mul_right x4 hu
  omega
end Go.Nm
end
section
namespace Go.Nm
open Go.Vg Ieee

set_option exponentiation.threshold 4000 in
/-- what stands for 1 -/
@[irreducible] def uV : Nat := 2 ^ 1075
set_option exponentiation.threshold 4000 in
theorem uV_eq : uV = 2 ^ 1075 := by unfold uV; rfl
set_option exponentiation.threshold 4000 in
theorem uV_pos : 0 < uV := by rw [uV_eq]; exact Nat.two_pow_pos _
/-- a float that stands for p / q, but for k parts in 2 to the 40 -/
structure Fp (k R p q : Nat) : Prop where
  rng : Rng R
  ap : Ap uV k (vB R) p q
set_option exponentiation.threshold 4000 in
/-- in range, for what it stands is -/
theorem rng_of {R k p q : Nat} (hR : R < infB) (hk : k ≤ 1000) (hq : 0 < q) (hp : 0 < p) (h1 : p ≤ 2 ^ 60 * q) (h2 : q ≤ 2 ^ 60 * p) (h : Ap uV k (vB R) p q) : Rng R := by
  obtain ⟨a1, a2⟩ := h
  have e1 : (2 : Nat) ^ 1075 = 2 ^ 975 * 2 ^ 100 := by rw [← Nat.pow_add]
  have e2 : (2 : Nat) ^ 1175 = 2 ^ 1075 * 2 ^ 100 := by rw [← Nat.pow_add]
  refine ⟨hR, ?_, ?_⟩
  · refine Nat.le_of_mul_le_mul_right (c := 2 ^ 40 * q) ?_ (Nat.mul_pos (by decide) hq)
    have x1 : (2 ^ 40 - 1000) * (p * uV) ≤ 2 ^ 40 * (vB R * q) := Nat.le_trans (Nat.mul_le_mul_right _ (by omega)) a2
    have x2 := Nat.mul_le_mul_left (2 ^ 975 * 2 ^ 40) h2
    rw [uV_eq, e1] at x1
    generalize 2 ^ 975 = z at *
    have y1 : (2 ^ 40 - 1000) * (p * (z * 2 ^ 100)) = (2 ^ 40 - 1000) * 2 ^ 100 * (p * z) := by
      rw [show p * (z * 2 ^ 100) = 2 ^ 100 * (p * z) by rw [← Nat.mul_assoc, Nat.mul_comm]]
      rw [← Nat.mul_assoc]
    have y2 : z * 2 ^ 40 * (2 ^ 60 * p) = 2 ^ 100 * (p * z) := by
      rw [show (2 : Nat) ^ 100 = 2 ^ 40 * 2 ^ 60 by decide]
      generalize 2 ^ 40 = a
      generalize 2 ^ 60 = b
      simp only [Nat.mul_assoc, Nat.mul_left_comm, Nat.mul_comm]
    have y3 : vB R * (2 ^ 40 * q) = 2 ^ 40 * (vB R * q) := Nat.mul_left_comm ..
    rw [y1] at x1
    rw [y2, Nat.mul_assoc] at x2
    rw [y3]
    refine Nat.le_trans x2 (Nat.le_trans ?_ x1)
    exact Nat.mul_le_mul_right _ (by decide)
  · refine Nat.le_of_mul_le_mul_right (c := 2 ^ 40 * q) ?_ (Nat.mul_pos (by decide) hq)
    have x1 : 2 ^ 40 * (vB R * q) ≤ (2 ^ 40 + 1000) * (p * uV) := Nat.le_trans a1 (Nat.mul_le_mul_right _ (by omega))
    have x2 := Nat.mul_le_mul_left ((2 ^ 40 + 1000) * 2 ^ 1075) h1
    rw [e2]
    rw [uV_eq] at x1
    generalize 2 ^ 1075 = z at *
    have y1 : (2 ^ 40 + 1000) * (p * z) = (2 ^ 40 + 1000) * z * p := by
      rw [Nat.mul_comm p, Nat.mul_assoc]
    have y2 : (2 ^ 40 + 1000) * z * (2 ^ 60 * q) = (2 ^ 40 + 1000) * 2 ^ 60 * (z * q) := by
      generalize 2 ^ 40 + 1000 = a
      generalize 2 ^ 60 = b
      simp only [Nat.mul_assoc, Nat.mul_left_comm, Nat.mul_comm]
    have y3 : vB R * (2 ^ 40 * q) = 2 ^ 40 * (vB R * q) := Nat.mul_left_comm ..
    have y4 : z * 2 ^ 100 * (2 ^ 40 * q) = 2 ^ 140 * (z * q) := by
      rw [show (2 : Nat) ^ 140 = 2 ^ 100 * 2 ^ 40 by decide]
      generalize 2 ^ 100 = a
      generalize 2 ^ 40 = b
      simp only [Nat.mul_assoc, Nat.mul_left_comm, Nat.mul_comm]
    rw [y1] at x1
    rw [y2] at x2
    rw [y3, y4]
    exact Nat.le_trans x1 (Nat.le_trans x2 (Nat.mul_le_mul_right _ (by decide)))
/-- products and quotients -/
theorem Fp.mul {k1 k2 k r s p1 q1 p2 q2 : Nat} (h1 : Fp k1 r p1 q1) (h2 : Fp k2 s p2 q2) (hk : k ≤ 1000) (hp : 0 < p1 * p2) (hq : 0 < q1 * q2) (g1 : p1 * p2 ≤ 2 ^ 60 * (q1 * q2)) (g2 : q1 * q2 ≤ 2 ^ 60 * (p1 * p2))
    (n1 : (2 ^ 53 + 1) * (2 ^ 40 + k1) * (2 ^ 40 + k2) * 2 ^ 40 ≤ (2 ^ 40 + k) * 2 ^ 133) (n2 : (2 ^ 40 - k) * 2 ^ 133 ≤ (2 ^ 53 - 1) * (2 ^ 40 - k1) * (2 ^ 40 - k2) * 2 ^ 40) : ∃ t, floatBits .mul .f64 r s = some t ∧ Fp k t (p1 * p2) (q1 * q2) := by
  obtain ⟨t, t1, _, t3, t4⟩ := mul_rel h1.rng h2.rng
  have hap : Ap uV k (vB t) (p1 * p2) (q1 * q2) := Ap.mul uV_pos h1.ap h2.ap (by rw [uV_eq]; exact t4) n1 n2
  exact ⟨t, t1, rng_of t3 hk hq hp g1 g2 hap, hap⟩
theorem Fp.add {k r s p1 p2 q : Nat} (h1 : Fp k r p1 q) (h2 : Fp k s p2 q) (hk : k ≤ 900) (hp : 0 < p1 + p2) (hq : 0 < q) (g1 : p1 + p2 ≤ 2 ^ 60 * q) (g2 : q ≤ 2 ^ 60 * (p1 + p2)) : ∃ t, floatBits .add .f64 r s = some t ∧ Fp (k + 1) t (p1 + p2) q := by
  obtain ⟨t, t1, _, t3, t4⟩ := add_rel h1.rng h2.rng
  have hap : Ap uV (k + 1) (vB t) (p1 + p2) q := Ap.add (by omega) h1.ap h2.ap t4
  exact ⟨t, t1, rng_of t3 (by omega) hq hp g1 g2 hap, hap⟩
theorem Fp.lt {k1 k2 r s p1 q1 p2 q2 : Nat} (h1 : Fp k1 r p1 q1) (h2 : Fp k2 s p2 q2) (hq1 : 0 < q1) (hq2 : 0 < q2) (h : (2 ^ 40 + k1) * (p1 * q2) < (2 ^ 40 - k2) * (p2 * q1)) : vB r < vB s :=
  Ap.lt uV_pos hq1 hq2 h1.ap h2.ap h
end Go.Nm
end
section
namespace Go.Nm
open Go.Vg Ieee

theorem Fp.eq {k R p q p' q' : Nat} (h : Fp k R p q) (hp : p = p') (hq : q = q') : Fp k R p' q' := by subst hp hq; exact h
abbrev kF : Nat := 4652007308841189376
abbrev iF (n : Nat) : Nat := floatOfInt .f64 (n : Int)
end Go.Nm
end
section
namespace Go.Nm
open Go.Vg Ieee

theorem nearest_sgn (s : Bool) (m : Nat) (p : Int) : double.nearest s m p = double.nearest false m p + sgn s := by
  have hs : sgn false = 0 := rfl
  unfold Format.nearest
  split
  · rw [word_rung, word_rung, hs]
  · simp only
    rw [word_rung, word_rung, hs, Nat.add_zero]
    rfl
end Go.Nm
end
section
namespace Go.Vg
open Go.RowKit Ieee
theorem cmp_of_ge {x y : Int} (h : y ≤ x) : compare x y = .gt ∨ compare x y = .eq := by
  simp only [compare, compareOfLessAndEq]
  by_cases e : x = y
  · right; rw [if_neg (by omega), if_pos e]
  · left; rw [if_neg (by omega), if_neg e]
theorem cmp_of_le {x y : Int} (h : x ≤ y) : compare x y = .lt ∨ compare x y = .eq := by
  simp only [compare, compareOfLessAndEq]
  by_cases e : x = y
  · right; rw [if_neg (by omega), if_pos e]
  · left; rw [if_pos (by omega)]
end Go.Vg
end
section
namespace Go.Vg
open Go.RowKit Ieee

/-- a datum is n parts, of which 2 to the j make one -/
def HasS (j : Int) (d : Datum) (n : Int) : Prop := ∃ s m e, d = .number s m e ∧ ((0 ≤ e + j ∧ n.natAbs = m * 2 ^ (e + j).toNat) ∨ (e + j < 0 ∧ m = n.natAbs * 2 ^ (-(e + j)).toNat)) ∧ (n ≠ 0 → s = decide (n < 0))
def IsS (j : Int) (b : Nat) (n : Int) : Prop := HasS j (double.read b) n
theorem near_exactS (j : Int) (hj : 0 ≤ j ∧ j ≤ 100) (s : Bool) (mag : Nat) (place : Int) (n : Int) (h : HasS j (.number s mag place) n) (hn : n.natAbs < 9007199254740992) : IsS j (double.nearest s mag place) n := by
  obtain ⟨s', m', e', he, hv, hs⟩ := h
  cases he
  unfold IsS Format.nearest
  by_cases h0 : mag = 0
  · rw [if_pos h0, read_word s 0 (by omega), if_pos (by omega)]
    have hn0 : n.natAbs = 0 := by
      rcases hv with ⟨_, h⟩ | ⟨_, h⟩
      · rw [h, h0, Nat.zero_mul]
      · have hp : 0 < 2 ^ (-(place + j)).toNat := Nat.two_pow_pos _
        rcases Nat.eq_zero_or_pos n.natAbs with h' | h'
        · exact h'
        · have := Nat.mul_pos h' hp
          omega
    exact ⟨s, 0, -1074, rfl, .inr ⟨by omega, by rw [hn0, Nat.zero_mul]⟩, fun h => by omega⟩
  · rw [if_neg h0, d_least, d_bin, d_inf, d_frac]
    obtain ⟨N, hN⟩ : ∃ N, n.natAbs = N := ⟨_, rfl⟩
    rw [hN] at hv hn
    have hN0 : N ≠ 0 := by
      rintro rfl
      rcases hv with ⟨_, h⟩ | ⟨_, h⟩
      · have := Nat.mul_pos (Nat.pos_of_ne_zero h0) (Nat.two_pow_pos (place + j).toNat); omega
      · rw [Nat.zero_mul] at h; exact h0 h
    obtain ⟨L, hL⟩ : ∃ L, N.log2 = L := ⟨_, rfl⟩
    have hL1 : 2 ^ L ≤ N := by rw [← hL]; exact Nat.log2_self_le hN0
    have hL2 : N < 2 ^ (L + 1) := by rw [← hL]; exact Nat.lt_log2_self
    have hL52 : L ≤ 52 := by
      rcases Nat.lt_or_ge 52 L with h | h
      · have := Nat.pow_le_pow_right (n := 2) (by decide) h
        have e : 2 ^ 53 = 9007199254740992 := by decide
        omega
      · exact h
    have hlog : place + j + mag.log2 = L := by
      rcases hv with ⟨h, hm⟩ | ⟨h, hm⟩
      · have := log2_mul_pow mag (place + j).toNat h0
        rw [← hm, hL] at this; omega
      · have := log2_mul_pow N (-(place + j)).toNat hN0
        rw [← hm, hL] at this; omega
    have hmax : max (place + (mag.log2 : Int) - ((52 : Nat) : Int)) (-1074) = (L : Int) - j - 52 := by omega
    rw [hmax]
    obtain ⟨K, hK⟩ : ∃ K, K = N * 2 ^ (52 - L) := ⟨_, rfl⟩
    have hKlog : K.log2 = 52 := by rw [hK, log2_mul_pow _ _ hN0, hL]; omega
    have hK0 : K ≠ 0 := by rintro rfl; simp at hKlog
    have hK1 : 4503599627370496 ≤ K := by
      have := Nat.log2_self_le hK0
      rw [hKlog] at this; exact this
    have hK2 : K < 9007199254740992 := by
      have := Nat.lt_log2_self (n := K)
      rw [hKlog] at this; exact this
    have hkept : Toward.even.cut s (mag <<< (place - ((L : Int) - j - 52)).toNat) (((L : Int) - j - 52) - place).toNat = K := by
      rw [Nat.shiftLeft_eq]
      rcases Int.lt_or_le place ((L : Int) - j - 52) with hp | hp
      · -- digits of nought are dropped
        rcases hv with ⟨h, _⟩ | ⟨h, hm⟩
        · omega
        · rw [show (place - ((L : Int) - j - 52)).toNat = 0 by omega, Nat.pow_zero, Nat.mul_one]
          have e : mag = K * 2 ^ (((L : Int) - j - 52) - place).toNat := by
            rw [hm, hK, Nat.mul_assoc, ← Nat.pow_add]
            congr 2; omega
          have hlm : mag.log2 = 52 + (((L : Int) - j - 52) - place).toNat := by rw [e, log2_mul_pow _ _ hK0, hKlog]
          rw [e]
          exact cut_exact s K _ _ (by rw [← e]; omega)
      · rw [show (((L : Int) - j - 52) - place).toNat = 0 by omega]
        have e : mag * 2 ^ (place - ((L : Int) - j - 52)).toNat = K := by
          rcases hv with ⟨h, hm⟩ | ⟨h, hm⟩
          · rw [hK, hm, Nat.mul_assoc, ← Nat.pow_add]
            congr 2; omega
          · rw [hK, hm, Nat.mul_assoc, ← Nat.pow_add]
            congr 2; omega
        rw [e]
        have := cut_exact s K 0 .even (by omega)
        simpa using this
    dsimp only
    rw [hkept]
    have hr : (((L : Int) - j - 52) - -1074).toNat * 4503599627370496 + K < 9218868437227405312 := by
      have : (((L : Int) - j - 52) - -1074).toNat ≤ 1075 := by omega
      have := Nat.mul_le_mul_right 4503599627370496 this
      omega
    rw [Nat.min_eq_left (Nat.le_of_lt hr), read_word s _ hr]
    obtain ⟨q, hq⟩ : ∃ q, (((L : Int) - j - 52) - -1074).toNat = q := ⟨_, rfl⟩
    rw [hq]
    have h1 : (q * 4503599627370496 + K) / 4503599627370496 = q + 1 := by omega
    have h2 : (q * 4503599627370496 + K) % 4503599627370496 = K - 4503599627370496 := by omega
    rw [if_neg (by omega), h1, h2]
    refine ⟨s, _, _, rfl, ?_, hs⟩
    rw [hN]
    have e1 : 4503599627370496 + (K - 4503599627370496) = K := by omega
    rw [e1]
    rcases Nat.lt_or_ge L 52 with h | h
    · refine .inr ⟨by omega, ?_⟩
      rw [hK, show (-(-1074 + ((q + 1 - 1 : Nat) : Int) + j)).toNat = 52 - L by omega]
    · refine .inl ⟨by omega, ?_⟩
      have : L = 52 := by omega
      rw [hK, this, show (-1074 + ((q + 1 - 1 : Nat) : Int) + j).toNat = 0 by omega, Nat.sub_self, Nat.pow_zero, Nat.mul_one, Nat.mul_one]
/-- the same by two powers -/
theorem hasS_pow {j : Int} {s : Bool} {m : Nat} {e n : Int} : HasS j (.number s m e) n ↔ (∃ A B : Nat, (A : Int) - B = e + j ∧ m * 2 ^ A = n.natAbs * 2 ^ B) ∧ (n ≠ 0 → s = decide (n < 0)) := by
  constructor
  · rintro ⟨s', m', e', h1, h2, h3⟩
    injection h1 with q1 q2 q3
    subst q1 q2 q3
    refine ⟨?_, h3⟩
    rcases h2 with ⟨h4, h5⟩ | ⟨h4, h5⟩
    · exact ⟨(e + j).toNat, 0, by omega, by rw [h5]; simp⟩
    · exact ⟨0, (-(e + j)).toNat, by omega, by rw [h5]; simp⟩
  · rintro ⟨⟨A, B, h1, h2⟩, h3⟩
    refine ⟨s, m, e, rfl, ?_, h3⟩
    rcases Int.lt_or_le (e + j) 0 with h | h
    · refine .inr ⟨h, ?_⟩
      have hB : B = A + (-(e + j)).toNat := by omega
      rw [hB, Nat.pow_add, Nat.mul_comm (2 ^ A), ← Nat.mul_assoc] at h2
      exact Nat.eq_of_mul_eq_mul_right (Nat.two_pow_pos A) h2
    · refine .inl ⟨h, ?_⟩
      have hA : A = B + (e + j).toNat := by omega
      rw [hA, Nat.pow_add, Nat.mul_comm (2 ^ B), ← Nat.mul_assoc] at h2
      exact (Nat.eq_of_mul_eq_mul_right (Nat.two_pow_pos B) h2).symm
theorem hasS_up {j i : Int} (hi : 0 ≤ i) {d : Datum} {n : Int} (h : HasS j d n) : HasS (j + i) d (n * 2 ^ i.toNat) := by
  obtain ⟨s, m, e, rfl, _⟩ := id h
  rw [hasS_pow] at h ⊢
  obtain ⟨⟨A, B, h1, h2⟩, h3⟩ := h
  have hp : (0 : Int) < 2 ^ i.toNat := by exact_mod_cast Nat.pow_pos (by decide : 0 < 2)
  have ha : (n * 2 ^ i.toNat).natAbs = n.natAbs * 2 ^ i.toNat := by rw [Int.natAbs_mul]; congr 1
  refine ⟨⟨A + i.toNat, B, by omega, by rw [ha, Nat.pow_add, ← Nat.mul_assoc, h2, Nat.mul_right_comm]⟩, fun h0 => ?_⟩
  have hn0 : n ≠ 0 := fun e => h0 (by rw [e]; simp)
  rw [h3 hn0]
  refine decide_eq_decide.2 ⟨fun h => Int.mul_neg_of_neg_of_pos h hp, fun h => ?_⟩
  refine Int.not_le.1 fun hle => ?_
  have := Int.mul_nonneg hle (Int.le_of_lt hp)
  omega
theorem isI_S0 {b : Nat} {n : Int} : IsI b n ↔ IsS 0 b n := by
  unfold IsI IsS HasInt HasS
  simp only [Int.add_zero]
theorem product_S {i j : Int} {d e : Datum} {n k : Int} (h1 : HasS i d n) (h2 : HasS j e k) : ∃ s m p, d.product e = some (.number s m p) ∧ HasS (i + j) (.number s m p) (n * k) := by
  obtain ⟨s, m, p, rfl, _⟩ := id h1
  obtain ⟨t, l, q, rfl, _⟩ := id h2
  rw [hasS_pow] at h1 h2
  obtain ⟨⟨A, B, a1, a2⟩, a3⟩ := h1
  obtain ⟨⟨A', B', b1, b2⟩, b3⟩ := h2
  refine ⟨s ^^ t, m * l, p + q, rfl, ?_⟩
  rw [hasS_pow]
  refine ⟨⟨A + A', B + B', by omega, ?_⟩, fun h0 => ?_⟩
  · have e1 : m * l * 2 ^ (A + A') = (m * 2 ^ A) * (l * 2 ^ A') := by rw [Nat.pow_add]; simp only [Nat.mul_assoc, Nat.mul_left_comm]
    have e2 : n.natAbs * 2 ^ B * (k.natAbs * 2 ^ B') = n.natAbs * k.natAbs * 2 ^ (B + B') := by rw [Nat.pow_add]; simp only [Nat.mul_assoc, Nat.mul_left_comm]
    rw [e1, a2, b2, e2, Int.natAbs_mul]
  · have hn : n ≠ 0 := fun e => h0 (by rw [e, Int.zero_mul])
    have hk : k ≠ 0 := fun e => h0 (by rw [e, Int.mul_zero])
    rw [a3 hn, b3 hk]
    rcases Int.lt_or_gt_of_ne hn with x | x <;> rcases Int.lt_or_gt_of_ne hk with y | y
    · have := Int.mul_pos_of_neg_of_neg x y
      rw [decide_eq_true x, decide_eq_true y, decide_eq_false (by omega)]; rfl
    · have := Int.mul_neg_of_neg_of_pos x y
      rw [decide_eq_true x, decide_eq_false (by omega), decide_eq_true this]; rfl
    · have := Int.mul_neg_of_pos_of_neg x y
      rw [decide_eq_false (by omega), decide_eq_true y, decide_eq_true this]; rfl
    · have := Int.mul_pos x y
      rw [decide_eq_false (by omega), decide_eq_false (by omega), decide_eq_false (by omega)]; rfl
theorem mul_isS {i j : Int} (hij : 0 ≤ i + j ∧ i + j ≤ 100) {a b : Nat} {n k : Int} (h1 : IsS i a n) (h2 : IsS j b k) (hb : (n * k).natAbs < 9007199254740992) : ∃ r, floatBits .mul .f64 a b = some r ∧ IsS (i + j) r (n * k) := by
  obtain ⟨s, m, p, h3, h4⟩ := product_S h1 h2
  refine ⟨double.nearest s m p, ?_, near_exactS _ hij _ _ _ _ h4 hb⟩
  show ((double.read a).product (double.read b)).map double.write = _
  rw [h3]; rfl
end Go.Vg
end
section
namespace Go.Vg
open Go.RowKit Ieee

theorem hasS_int {j e n : Int} {s : Bool} {m : Nat} : HasS j (.number s m e) n ↔ HasInt (.number s m (e + j)) n := by
  constructor
  · rintro ⟨s', m', e', h, h2, h3⟩
    injection h with a b c
    subst a b c
    exact ⟨_, _, _, rfl, h2, h3⟩
  · rintro ⟨s', m', e', h, h2, h3⟩
    injection h with a b c
    subst a b
    rw [← c] at h2
    exact ⟨_, _, _, rfl, h2, h3⟩
theorem order_S {j : Int} {d e : Datum} {n k : Int} (h1 : HasS j d n) (h2 : HasS j e k) : d.order e = some (compare n k) := by
  obtain ⟨s, m, i, rfl, _⟩ := id h1
  obtain ⟨t, l, p, rfl, _⟩ := id h2
  rw [hasS_int] at h1 h2
  rw [← order_int h1 h2]
  show some (compare (signed s m (i - min i p).toNat) (signed t l (p - min i p).toNat)) = some (compare (signed s m (i + j - min (i + j) (p + j)).toNat) (signed t l (p + j - min (i + j) (p + j)).toNat))
  rw [show i - min i p = i + j - min (i + j) (p + j) by omega, show p - min i p = p + j - min (i + j) (p + j) by omega]
theorem sum_S {j : Int} {d e : Datum} {n k : Int} (h1 : HasS j d n) (h2 : HasS j e k) : ∃ s m p, d.sum e = some (.number s m p) ∧ HasS j (.number s m p) (n + k) := by
  obtain ⟨s, m, i, rfl, _⟩ := id h1
  obtain ⟨t, l, p, rfl, _⟩ := id h2
  rw [hasS_int] at h1 h2
  obtain ⟨s0, m0, p0, h3, h4⟩ := sum_int h1 h2
  refine ⟨s0, m0, p0 - j, ?_, hasS_int.2 (by rw [Int.sub_add_cancel]; exact h4)⟩
  unfold Datum.sum at h3 ⊢
  simp only [Option.some.injEq] at h3 ⊢
  injection h3 with a b c
  rw [show i + j - min (i + j) (p + j) = i - min i p by omega, show p + j - min (i + j) (p + j) = p - min i p by omega] at a b
  rw [a, b, show p0 - j = min i p by omega]
theorem opp_S {j : Int} {d : Datum} {n : Int} (h : HasS j d n) : HasS j d.opposite (-n) := by
  obtain ⟨s, m, e, rfl, h1, h2⟩ := h
  refine ⟨!s, m, e, rfl, by simpa using h1, fun h0 => ?_⟩
  rw [h2 (by omega)]
  by_cases h : n < 0
  · rw [decide_eq_true h, decide_eq_false (by omega)]; rfl
  · rw [decide_eq_false h, decide_eq_true (by omega)]; rfl
theorem add_isS {j : Int} (hj : 0 ≤ j ∧ j ≤ 100) {a b : Nat} {n k : Int} (h1 : IsS j a n) (h2 : IsS j b k) (hb : (n + k).natAbs < 9007199254740992) : ∃ r, floatBits .add .f64 a b = some r ∧ IsS j r (n + k) := by
  obtain ⟨s, m, p, e, h⟩ := sum_S h1 h2
  refine ⟨double.nearest s m p, ?_, near_exactS _ hj _ _ _ _ h hb⟩
  show ((double.read a).sum (double.read b)).map double.write = _
  rw [e]; rfl
theorem sub_isS {j : Int} (hj : 0 ≤ j ∧ j ≤ 100) {a b : Nat} {n k : Int} (h1 : IsS j a n) (h2 : IsS j b k) (hb : (n - k).natAbs < 9007199254740992) : ∃ r, floatBits .sub .f64 a b = some r ∧ IsS j r (n - k) := by
  obtain ⟨s, m, p, e, h⟩ := sum_S h1 (opp_S h2)
  rw [← Int.sub_eq_add_neg] at h
  refine ⟨double.nearest s m p, ?_, near_exactS _ hj _ _ _ _ h hb⟩
  show ((double.read a).sum (double.read b).opposite).map double.write = _
  rw [e]; rfl
theorem isS_up {i j : Int} (hi : 0 ≤ i) {b : Nat} {n : Int} (h : IsS j b n) : IsS (j + i) b (n * 2 ^ i.toNat) := hasS_up hi h
/-- a whole number by parts of 1024 -/
theorem isI_10 {b : Nat} {n : Int} (h : IsI b n) : IsS 10 b (n * 1024) := isS_up (i := 10) (by decide) (isI_S0.1 h)
theorem ordB_S {j : Int} {a b : Nat} {n k : Int} (h1 : IsS j a n) (h2 : IsS j b k) : FloatKind.f64.format.order a b = some (compare n k) := order_S h1 h2
theorem cmp_lt_iff' {x y : Int} : compare x y = .lt ↔ x < y := by
  simp only [compare, compareOfLessAndEq]
  split
  · simp [*]
  · split <;> simp <;> omega
theorem cmp_eq_iff' {x y : Int} : compare x y = .eq ↔ x = y := by
  simp only [compare, compareOfLessAndEq]
  split
  · simp; omega
  · split <;> simp [*]
theorem cmp_gt_iff' {x y : Int} : compare x y = .gt ↔ y < x := by
  simp only [compare, compareOfLessAndEq]
  split
  · simp; omega
  · split <;> simp <;> omega
theorem lss_S {j : Int} {a b : Nat} {n k : Int} (h1 : IsS j a n) (h2 : IsS j b k) : fcmpB .lss a b = some (decide (n < k)) := by
  unfold fcmpB
  simp only
  rw [ordB_S h1 h2]
  congr 1
  rw [Bool.eq_iff_iff, beq_iff_eq, Option.some.injEq, cmp_lt_iff', decide_eq_true_eq]
theorem gtr_S {j : Int} {a b : Nat} {n k : Int} (h1 : IsS j a n) (h2 : IsS j b k) : fcmpB .gtr a b = some (decide (k < n)) := by
  unfold fcmpB
  simp only
  rw [ordB_S h1 h2]
  congr 1
  rw [Bool.eq_iff_iff, beq_iff_eq, Option.some.injEq, cmp_gt_iff', decide_eq_true_eq]
theorem leq_S {j : Int} {a b : Nat} {n k : Int} (h1 : IsS j a n) (h2 : IsS j b k) (h : n ≤ k) : fcmpB .leq a b = some true := by
  unfold fcmpB
  simp only
  rw [ordB_S h1 h2]
  rcases cmp_of_le h with e | e <;> rw [e] <;> rfl
theorem geq_S {j : Int} {a b : Nat} {n k : Int} (h1 : IsS j a n) (h2 : IsS j b k) (h : k ≤ n) : fcmpB .geq a b = some true := by
  unfold fcmpB
  simp only
  rw [ordB_S h1 h2]
  rcases cmp_of_ge h with e | e <;> rw [e] <;> rfl
theorem neq_S {j : Int} {a b : Nat} {n k : Int} (h1 : IsS j a n) (h2 : IsS j b k) (h : n = k) : fcmpB .neq a b = some false := by
  unfold fcmpB
  simp only
  rw [ordB_S h1 h2, cmp_eq_iff'.2 h]
  rfl
theorem self_S {j : Int} {a : Nat} {n : Int} (h1 : IsS j a n) : fcmpB .neq a a = some false := neq_S h1 h1 rfl
theorem floor_isS {b : Nat} {n : Int} (h : IsS 10 b n) (hn : (n / 1024).natAbs < 9007199254740992) :
    ∃ r, (∀ (P : Program) (w : World), (Extern.MathFloor.toIntegral "math.archFloor" .down #[Fl b]).run P w = .ok (Fl r) w) ∧ IsI r (n / 1024) := by
  obtain ⟨s, m, i, hr, _⟩ := id h
  have hh : HasInt (.number s m (i + 10)) n := hasS_int.1 (by rw [← hr]; exact h)
  obtain ⟨c, hc⟩ : ∃ c, c = min i (-10) := ⟨_, rfl⟩
  have hs := floor_scale s m i c (by omega) (by omega)
  have hv := val_lo (b := c + 10) hh (by omega) (by omega)
  rw [show i + 10 - (c + 10) = i - c by omega] at hv
  rw [hv] at hs
  have hp : (0 : Int) < ((2 ^ (-(c + 10)).toNat : Nat) : Int) := by exact_mod_cast Nat.pow_pos (by decide)
  have he : ((2 ^ (-c).toNat : Nat) : Int) = 1024 * ((2 ^ (-(c + 10)).toNat : Nat) : Int) := by
    have e : (2 ^ (-c).toNat : Nat) = 1024 * 2 ^ (-(c + 10)).toNat := by
      rw [show (-c).toNat = 10 + (-(c + 10)).toNat by omega, Nat.pow_add]
    rw [e, Int.natCast_mul]; rfl
  rw [he, ← Int.mul_assoc, ← Int.mul_assoc] at hs
  have k1 := Int.le_of_mul_le_mul_right hs.1 hp
  have k2 := Int.lt_of_mul_lt_mul_right hs.2 (Int.le_of_lt hp)
  have hf : floorI s m i = n / 1024 := by omega
  refine ⟨double.nearest s (Toward.down.cut s (m <<< i.toNat) (-i).toNat) 0, fun P w => ?_, ?_⟩
  · have hd : FloatKind.f64.decode b = .number s m i := hr
    delta Extern.MathFloor.toIntegral
    show Sem.run P (Extern.MathFloor.toIntegral.match_1 (fun _ => Sem Value) (FloatKind.f64.decode b) _ _) w = _
    rw [hd]
    rfl
  · have hc : (floorI s m i).natAbs = Toward.down.cut s (m <<< i.toNat) (-i).toNat := by
      unfold floorI
      rw [signed_zero]
      cases s <;> simp
    rw [← hf]
    exact near_exact _ _ _ _ (isI_mk s _ (by rw [← hc, hf]; exact hn)) (by
      show (floorI s m i).natAbs < _
      rw [hf]; exact hn)
/-- is the float so many parts of 1024? -/
def isSB (b : Nat) (n : Nat) : Bool := match double.read b with
  | .number s m e => !s && (decide (0 ≤ e + 10) && decide (n = m * 2 ^ (e + 10).toNat) || decide (e + 10 < 0) && decide (m = n * 2 ^ (-(e + 10)).toNat))
  | _ => false
theorem isSB_ok {b n : Nat} (h : isSB b n = true) : IsS 10 b (n : Int) := by
  unfold isSB at h
  split at h
  · next s m e hr =>
    simp only [Bool.and_eq_true, Bool.or_eq_true, decide_eq_true_eq, Bool.not_eq_true'] at h
    obtain ⟨rfl, h⟩ := h
    refine ⟨false, m, e, hr, ?_, fun _ => (decide_eq_false (by omega)).symm⟩
    rw [Int.natAbs_natCast]
    exact h
  · cases h
def quoC (p : Nat) : Bool := match floatBits .quo .f64 (floatOfInt .f64 (p : Int)) 4652218415073722368 with
  | some r => isSB r p
  | none => false
theorem quo_all : (List.range 1025).all quoC = true := by decide +kernel
theorem quo_isS {p : Nat} (h : p ≤ 1024) : ∃ r, floatBits .quo .f64 (floatOfInt .f64 (p : Int)) 4652218415073722368 = some r ∧ IsS 10 r (p : Int) := by
  have := List.all_eq_true.1 quo_all p (List.mem_range.2 (by omega))
  unfold quoC at this
  split at this
  · next r hr => exact ⟨r, hr, isSB_ok this⟩
  · cases this
end Go.Vg
end
section
namespace Go.Nm
open Go.Vg Ieee

set_option exponentiation.threshold 4000 in
/-- a number of parts of 2 to the 1075, brought to the nearest float -/
theorem near_relS {s : Bool} {mag : Nat} {place Z : Int} (h : HasS 1075 (.number s mag place) Z) (h1 : 2 ^ 53 ≤ Z.natAbs) (h2 : Z.natAbs < 2 ^ 2000) :
    ∃ T, double.nearest s mag place = T + sgn s ∧ T < infB ∧ s = decide (Z < 0) ∧ 2 ^ 53 * vB T ≤ (2 ^ 53 + 1) * Z.natAbs ∧ (2 ^ 53 - 1) * Z.natAbs ≤ 2 ^ 53 * vB T := by
  rw [hasS_pow] at h
  obtain ⟨⟨A, B, hAB, hm⟩, hs⟩ := h
  obtain ⟨N, hN⟩ : ∃ N, Z.natAbs = N := ⟨_, rfl⟩
  rw [hN] at hm h1 h2 ⊢
  have hN0 : N ≠ 0 := by
    intro e
    have := Nat.two_pow_pos 53
    omega
  have hm0 : mag ≠ 0 := by
    rintro rfl
    rw [Nat.zero_mul] at hm
    have := Nat.mul_pos (Nat.pos_of_ne_zero hN0) (Nat.two_pow_pos B)
    omega
  have hlog : mag.log2 + A = N.log2 + B := by rw [← log2_mul_pow _ _ hm0, hm, log2_mul_pow _ _ hN0]
  have l1 : 53 ≤ N.log2 := (Nat.le_log2 hN0).2 h1
  have l2 : N.log2 < 2000 := (Nat.log2_lt hN0).2 h2
  obtain ⟨T, t1, t2, t3, t4⟩ := near_rel (mag := mag) (place := place) (Nat.pos_of_ne_zero hm0) (by omega) (by omega)
  refine ⟨T, by rw [nearest_sgn, t1], t3, hs (by omega), ?_⟩
  have h := t4 B A (by omega)
  rw [hm] at h
  have hp := Nat.two_pow_pos B
  constructor
  · refine Nat.le_of_mul_le_mul_right (c := 2 ^ B) ?_ hp
    rw [Nat.mul_assoc, Nat.mul_assoc]; exact h.1
  · refine Nat.le_of_mul_le_mul_right (c := 2 ^ B) ?_ hp
    rw [Nat.mul_assoc, Nat.mul_assoc]; exact h.2
/-- a float's own parts of 2 to the 1075 -/
theorem isS_rung {T : Nat} (s : Bool) (h : T < infB) : IsS 1075 (T + sgn s) (sg s * (vB T : Int)) := by
  unfold IsS
  rw [read_rung s h]
  have hv : vB T = mB T * 2 ^ (kB T + 1) := v_pow T
  refine ⟨s, _, _, rfl, .inl ⟨by omega, ?_⟩, fun h0 => ?_⟩
  · rw [show ((kB T : Int) - 1074 + 1075).toNat = kB T + 1 by omega, ← hv, Int.natAbs_mul]
    cases s <;> simp [sg]
  · cases s
    · simp only [sg, Bool.false_eq_true, if_false, Int.one_mul]
      exact (decide_eq_false (by omega)).symm
    · simp only [sg, if_true] at h0 ⊢
      exact (decide_eq_true (by omega)).symm
set_option exponentiation.threshold 4000 in
/-- a part of 1024, by parts of 2 to the 1075 -/
def uP : Nat := 2 ^ 1065
set_option exponentiation.threshold 4000 in
theorem isS_u {b : Nat} {n : Int} (h : IsS 10 b n) : IsS 1075 b (n * (uP : Int)) := by
  have := isS_up (i := 1065) (by decide) h
  rw [show (10 : Int) + 1065 = 1075 from rfl] at this
  have e : ((2 : Int) ^ (1065 : Int).toNat) = (uP : Int) := by
    show (2 : Int) ^ 1065 = ((2 ^ 1065 : Nat) : Int)
    rw [Int.natCast_pow]; rfl
  rw [e] at this
  exact this
abbrev slB : Nat := 4517329193108106637
set_option exponentiation.threshold 4000 in
theorem slack_bd : slB < infB ∧ 2 ^ 53 ≤ vB slB ∧ uP ≤ 1024 * vB slB ∧ 2 * vB slB ≤ uP ∧ uP < 2 ^ 1066 := by
  unfold uP
  decide +kernel
theorem slack_S : IsS 1075 slB (vB slB : Int) := by
  have := isS_rung false slack_bd.1
  simpa [sgn, sg] using this
set_option exponentiation.threshold 4000 in
theorem up_ok {b : Nat} {n : Int} (h : IsS 10 b n) (hn : n.natAbs ≤ 2 ^ 31) : ∃ r, floatBits .add .f64 b slB = some r ∧ ∀ c k, IsS 10 c k → k ≤ n → fcmpB .leq c r = some true := by
  obtain ⟨s, m, p, e, hz⟩ := sum_S (isS_u h) slack_S
  obtain ⟨b1, b2, b3, b4, b5⟩ := slack_bd
  obtain ⟨S, hS⟩ : ∃ S, S = vB slB := ⟨_, rfl⟩
  obtain ⟨u, hu⟩ : ∃ u, u = uP := ⟨_, rfl⟩
  obtain ⟨N, hN⟩ : ∃ N : Int, N = n * (u : Int) := ⟨_, rfl⟩
  have hNb : N.natAbs ≤ 2 ^ 31 * u := by rw [hN, Int.natAbs_mul]; exact Nat.mul_le_mul_right _ hn
  have hNz : N = 0 ∨ u ≤ N.natAbs := by
    by_cases h0 : n = 0
    · left; rw [hN, h0, Int.zero_mul]
    · right; rw [hN, Int.natAbs_mul]; exact Nat.le_mul_of_pos_left _ (by omega)
  rw [← hS, ← hu, ← hN] at hz
  rw [← hS] at b2 b3 b4
  rw [← hu] at b3 b4 b5
  have hlow : S ≤ (N + (S : Int)).natAbs := by omega
  have hup : (N + (S : Int)).natAbs < 2 ^ 2000 := by
    have h1 : 2 ^ 33 * u < 2 ^ 33 * 2 ^ 1066 := Nat.mul_lt_mul_of_pos_left b5 (by decide)
    have h2 : 2 ^ 33 * 2 ^ 1066 ≤ 2 ^ 2000 := by rw [← Nat.pow_add]; exact Nat.pow_le_pow_right (by decide) (by decide)
    generalize 2 ^ 33 * 2 ^ 1066 = x at h1 h2
    generalize 2 ^ 2000 = y at h2 ⊢
    omega
  obtain ⟨T, t1, t2, t3, t4, t5⟩ := near_relS hz (Nat.le_trans b2 hlow) hup
  have e0 : sg s * (vB T : Int) = if N + (S : Int) < 0 then -(vB T : Int) else (vB T : Int) := by
    rw [t3]
    by_cases hh : N + (S : Int) < 0
    · rw [if_pos hh, decide_eq_true hh]; simp [sg]
    · rw [if_neg hh, decide_eq_false hh]; simp [sg]
  refine ⟨T + sgn s, ?_, fun c k hc hk => ?_⟩
  · show ((double.read b).sum (double.read slB)).map double.write = _
    rw [e, ← t1]; rfl
  · refine leq_S (isS_u hc) (isS_rung s t2) ?_
    have hk2 : k * (uP : Int) ≤ N := by rw [hN, ← hu]; exact Int.mul_le_mul_of_nonneg_right hk (by omega)
    rw [e0]
    generalize vB T = t at t4 t5 ⊢
    split <;> omega
set_option exponentiation.threshold 4000 in
theorem down_ok {b : Nat} {n : Int} (h : IsS 10 b n) (hn : n.natAbs ≤ 2 ^ 31) : ∃ r, floatBits .sub .f64 b slB = some r ∧ ∀ c k, IsS 10 c k → n ≤ k → fcmpB .geq c r = some true := by
  obtain ⟨s, m, p, e, hz⟩ := sum_S (isS_u h) (opp_S slack_S)
  obtain ⟨b1, b2, b3, b4, b5⟩ := slack_bd
  obtain ⟨S, hS⟩ : ∃ S, S = vB slB := ⟨_, rfl⟩
  obtain ⟨u, hu⟩ : ∃ u, u = uP := ⟨_, rfl⟩
  obtain ⟨N, hN⟩ : ∃ N : Int, N = n * (u : Int) := ⟨_, rfl⟩
  have hNb : N.natAbs ≤ 2 ^ 31 * u := by rw [hN, Int.natAbs_mul]; exact Nat.mul_le_mul_right _ hn
  have hNz : N = 0 ∨ u ≤ N.natAbs := by
    by_cases h0 : n = 0
    · left; rw [hN, h0, Int.zero_mul]
    · right; rw [hN, Int.natAbs_mul]; exact Nat.le_mul_of_pos_left _ (by omega)
  rw [← hS, ← hu, ← hN] at hz
  rw [← hS] at b2 b3 b4
  rw [← hu] at b3 b4 b5
  have hlow : S ≤ (N + -(S : Int)).natAbs := by omega
  have hup : (N + -(S : Int)).natAbs < 2 ^ 2000 := by
    have h1 : 2 ^ 33 * u < 2 ^ 33 * 2 ^ 1066 := Nat.mul_lt_mul_of_pos_left b5 (by decide)
    have h2 : 2 ^ 33 * 2 ^ 1066 ≤ 2 ^ 2000 := by rw [← Nat.pow_add]; exact Nat.pow_le_pow_right (by decide) (by decide)
    generalize 2 ^ 33 * 2 ^ 1066 = x at h1 h2
    generalize 2 ^ 2000 = y at h2 ⊢
    omega
  obtain ⟨T, t1, t2, t3, t4, t5⟩ := near_relS hz (Nat.le_trans b2 hlow) hup
  have e0 : sg s * (vB T : Int) = if N + -(S : Int) < 0 then -(vB T : Int) else (vB T : Int) := by
    rw [t3]
    by_cases hh : N + -(S : Int) < 0
    · rw [if_pos hh, decide_eq_true hh]; simp [sg]
    · rw [if_neg hh, decide_eq_false hh]; simp [sg]
  refine ⟨T + sgn s, ?_, fun c k hc hk => ?_⟩
  · show ((double.read b).sum (double.read slB).opposite).map double.write = _
    rw [e, ← t1]; rfl
  · refine geq_S (isS_u hc) (isS_rung s t2) ?_
    have hk2 : N ≤ k * (uP : Int) := by rw [hN, ← hu]; exact Int.mul_le_mul_of_nonneg_right hk (by omega)
    rw [e0]
    generalize vB T = t at t4 t5 ⊢
    split <;> omega
end Go.Nm
end
section
namespace Go.Vg

/-- what lies at so many parts of 1024 of a row, by parts of 1024 -/
def qv (f : Nat → Int) (n P : Nat) : Int := f (P * (n - 1) / 1024) * (1024 - (P * (n - 1) % 1024 : Nat)) + f (min (P * (n - 1) / 1024 + 1) (n - 1)) * ((P * (n - 1) % 1024 : Nat) : Int)
theorem qv_diff (f : Nat → Int) (n P : Nat) : qv f n P = f (P * (n - 1) / 1024) * 1024 + (f (min (P * (n - 1) / 1024 + 1) (n - 1)) - f (P * (n - 1) / 1024)) * ((P * (n - 1) % 1024 : Nat) : Int) := by
  unfold qv
  generalize f (P * (n - 1) / 1024) = a
  generalize f (min (P * (n - 1) / 1024 + 1) (n - 1)) = b
  generalize ((P * (n - 1) % 1024 : Nat) : Int) = w
  rw [Int.mul_sub, Int.sub_mul]
  omega
theorem qv_mono {f : Nat → Int} {n P Q : Nat} (hs : ∀ i j, i < j → j < n → f i ≤ f j) (hn : 0 < n) (hPQ : P ≤ Q) (hQ : Q ≤ 1024) : qv f n P ≤ qv f n Q := by
  rw [qv_diff, qv_diff]
  have h1 : P * (n - 1) ≤ Q * (n - 1) := Nat.mul_le_mul_right _ hPQ
  have h2 : Q * (n - 1) ≤ 1024 * (n - 1) := Nat.mul_le_mul_right _ hQ
  generalize P * (n - 1) = S at h1
  generalize Q * (n - 1) = T at h1 h2
  have hle : ∀ i j, i ≤ j → j < n → f i ≤ f j := fun i j h h' => by
    rcases Nat.lt_or_eq_of_le h with h | h
    · exact hs i j h h'
    · rw [h]; exact Int.le_refl _
  obtain ⟨i, hi⟩ : ∃ i, S / 1024 = i := ⟨_, rfl⟩
  obtain ⟨j, hj⟩ : ∃ j, T / 1024 = j := ⟨_, rfl⟩
  obtain ⟨a, ha⟩ : ∃ a, S % 1024 = a := ⟨_, rfl⟩
  obtain ⟨b, hb⟩ : ∃ b, T % 1024 = b := ⟨_, rfl⟩
  rw [hi, hj, ha, hb]
  have hij : i ≤ j := by omega
  have hjn : j ≤ n - 1 := by omega
  have d1 : 0 ≤ f (min (i + 1) (n - 1)) - f i := by have := hle i (min (i + 1) (n - 1)) (by omega) (by omega); omega
  have d2 : 0 ≤ f (min (j + 1) (n - 1)) - f j := by have := hle j (min (j + 1) (n - 1)) (by omega) (by omega); omega
  rcases Nat.lt_or_eq_of_le hij with h | h
  · have h3 : (f (min (i + 1) (n - 1)) - f i) * (a : Int) ≤ (f (min (i + 1) (n - 1)) - f i) * 1024 := Int.mul_le_mul_of_nonneg_left (by omega) d1
    have h4 : 0 ≤ (f (min (j + 1) (n - 1)) - f j) * (b : Int) := Int.mul_nonneg d2 (by omega)
    have h5 : f (min (i + 1) (n - 1)) ≤ f j := hle _ _ (by omega) (by omega)
    omega
  · subst h
    have h3 : (f (min (i + 1) (n - 1)) - f i) * (a : Int) ≤ (f (min (i + 1) (n - 1)) - f i) * (b : Int) := Int.mul_le_mul_of_nonneg_left (by omega) d1
    omega
theorem qv_0 (f : Nat → Int) (n : Nat) : qv f n 0 = f 0 * 1024 := by
  rw [qv_diff]; simp
theorem qv_1 (f : Nat → Int) (n : Nat) : qv f n 1024 = f (n - 1) * 1024 := by
  rw [qv_diff, Nat.mul_div_cancel_left _ (by decide), Nat.mul_mod_right]; simp
end Go.Vg
end
section
open Go Go.Vg Go.RowKit Go.Proofs Go.Proofs.Ytbnckhfkkoncbaa
namespace Go.Proofs.Ytbnckhfkkoncbaa

theorem zero_S : IsS 10 0 0 := isSB_ok (n := 0) (by decide +kernel)
theorem one_S : IsS 10 4607182418800017408 1024 := isSB_ok (n := 1024) (by decide +kernel)
theorem mul_bd {a b : Int} {A B : Nat} (h1 : a.natAbs ≤ A) (h2 : b.natAbs ≤ B) (h : A * B < 9007199254740992) : (a * b).natAbs < 9007199254740992 := by
  rw [Int.natAbs_mul]
  exact Nat.lt_of_le_of_lt (Nat.mul_le_mul h1 h2) h
/-- the floats of a share -/
theorem share_fl {q a b P n : Nat} {x y : Int} (hP : P ≤ 1024) (hn : 1 ≤ n) (hn2 : n ≤ 60) (hq : IsS 10 q (P : Int)) (ha : IsI a x) (hb : IsI b y) (hx : x.natAbs ≤ 1000000) (hy : y.natAbs ≤ 1000000) :
    ∃ r f w o c d s, floatBits .mul .f64 q (floatOfInt .f64 ((n - 1 : Nat) : Int)) = some r ∧ (∀ (P : Program) (w : World), (Extern.MathFloor.toIntegral "math.archFloor" .down #[Fl r]).run P w = .ok (Fl f) w) ∧ floatToIntVal .f64 f .i64 = some ((P * (n - 1) / 1024 : Nat) : Int) ∧
      floatBits .sub .f64 r f = some w ∧ floatBits .sub .f64 4607182418800017408 w = some o ∧ floatBits .mul .f64 a o = some c ∧ floatBits .mul .f64 b w = some d ∧ floatBits .add .f64 c d = some s ∧
      IsS 10 s (x * (1024 - ((P * (n - 1) % 1024 : Nat) : Int)) + y * ((P * (n - 1) % 1024 : Nat) : Int)) := by
  have hT : P * (n - 1) ≤ 1024 * 60 := Nat.mul_le_mul hP (by omega)
  obtain ⟨r, r1, r2⟩ := mul_isS (by decide) hq (isI_S0.1 (ofInt_isI ((n - 1 : Nat) : Int) (by omega))) (by rw [← Int.natCast_mul]; omega)
  rw [← Int.natCast_mul] at r2
  generalize P * (n - 1) = T at hT r2 ⊢
  obtain ⟨f, f1, f2⟩ := floor_isS r2 (by omega)
  obtain ⟨w, w1, w2⟩ := sub_isS (by decide) r2 (isI_10 f2) (by omega)
  have ew : (T : Int) - (T : Int) / 1024 * 1024 = ((T % 1024 : Nat) : Int) := by omega
  rw [ew] at w2
  obtain ⟨o, o1, o2⟩ := sub_isS (by decide) one_S w2 (by omega)
  obtain ⟨c, c1, c2⟩ := mul_isS (by decide) (isI_S0.1 ha) o2 (mul_bd (B := 1024) hx (by omega) (by decide))
  obtain ⟨d, d1, d2⟩ := mul_isS (by decide) (isI_S0.1 hb) w2 (mul_bd (B := 1024) hy (by omega) (by decide))
  have hc : (x * (1024 - ((T % 1024 : Nat) : Int))).natAbs ≤ 1000000 * 1024 := by rw [Int.natAbs_mul]; exact Nat.mul_le_mul hx (by omega)
  have hd : (y * ((T % 1024 : Nat) : Int)).natAbs ≤ 1000000 * 1024 := by rw [Int.natAbs_mul]; exact Nat.mul_le_mul hy (by omega)
  obtain ⟨s, s1, s2⟩ := add_isS (j := 10) (by decide) c2 d2 (by omega)
  refine ⟨r, f, w, o, c, d, s, r1, f1, ?_, w1, o1, c1, d1, s1, s2⟩
  have e : (T : Int) / 1024 = ((T / 1024 : Nat) : Int) := by omega
  rw [← e]
  exact f2i_isI f2 (by omega) (by omega)
/-- one row sorted in two ways is one row of numbers -/
theorem srt_uniq {K : Nat → Int} {xs ys zs : List Nat} (h1 : ys.Perm xs) (h2 : zs.Perm xs) (s1 : Srt K 0 xs.length ys) (s2 : Srt K 0 xs.length zs) (i : Nat) (hi : i < xs.length) : K (at_ ys i) = K (at_ zs i) := by
  have pw : ∀ {us : List Nat}, us.Perm xs → Srt K 0 xs.length us → (us.map K).Pairwise (· ≤ ·) := fun {us} hp hs => by
    rw [List.pairwise_map, List.pairwise_iff_getElem]
    intro p r hp' hr hpr
    have hl := hp.length_eq
    have := hs p r (Nat.zero_le _) hpr (by omega)
    unfold at_ at this
    rw [List.getD_eq_getElem?_getD, List.getD_eq_getElem?_getD, List.getElem?_eq_getElem hp', List.getElem?_eq_getElem hr] at this
    exact this
  have e : ys.map K = zs.map K := List.Perm.eq_of_pairwise (le := (· ≤ ·)) (fun a b _ _ => Int.le_antisymm) (pw h1 s1) (pw h2 s2) ((h1.trans h2.symm).map K)
  have l1 := h1.length_eq
  have l2 := h2.length_eq
  have := congrArg (fun l => l[i]?) e
  simp only [List.getElem?_map] at this
  rw [at_get (by omega), at_get (by omega)] at this
  simpa using this
/-- there is such a row -/
theorem srt_ex (K : Nat → Int) (xs : List Nat) : ∃ ys : List Nat, ys.Perm xs ∧ Srt K 0 xs.length ys := by
  refine ⟨xs.mergeSort fun a b => decide (K a ≤ K b), List.mergeSort_perm _ _, fun p r _ hpr hr => ?_⟩
  have hp := List.pairwise_mergeSort (le := fun a b => decide (K a ≤ K b)) (fun a b c h1 h2 => by
    rw [decide_eq_true_eq] at *; omega) (fun a b => by
    rw [Bool.or_eq_true, decide_eq_true_eq, decide_eq_true_eq]; omega) xs
  rw [List.pairwise_iff_getElem] at hp
  have hl : (xs.mergeSort fun a b => decide (K a ≤ K b)).length = xs.length := (List.mergeSort_perm _ _).length_eq
  have := hp p r (by omega) (by omega) hpr
  unfold at_
  rw [List.getD_eq_getElem?_getD, List.getD_eq_getElem?_getD, List.getElem?_eq_getElem (by omega), List.getElem?_eq_getElem (by omega)]
  simpa using this
theorem qv_congr {f g : Nat → Int} {n P : Nat} (hP : P ≤ 1024) (hn : 1 ≤ n) (h : ∀ i, i < n → f i = g i) : qv f n P = qv g n P := by
  have h2 : P * (n - 1) ≤ 1024 * (n - 1) := Nat.mul_le_mul_right _ hP
  unfold qv
  rw [h _ (by omega), h _ (by omega)]
set_option maxHeartbeats 4000000 in
theorem quantN_ok (K : Nat → Int) (zs : List Nat) (q P : Nat) (v : Value) (xs : List Nat) (w : World) (hv : Fls w v xs) (hK : Good K xs) (hKb : ∀ x ∈ xs, (K x).natAbs ≤ 1000000) (h0 : xs ≠ []) (hn2 : xs.length ≤ 60) (hP : P ≤ 1024) (hq : IsS 10 q (P : Int)) (hz1 : zs.Perm xs) (hz2 : Srt K 0 xs.length zs) :
    Ret Try.prog 14 ⟨[Fl q, v]⟩ w fun r w' => (∃ s, r = Fl s ∧ IsS 10 s (qv (fun i => K (at_ zs i)) xs.length P)) ∧ Ext w w' := by
  obtain ⟨n, hn⟩ : ∃ n, n = xs.length := ⟨_, rfl⟩
  have hlen : (xs.map fC).length = n := by rw [List.length_map, hn]
  have hn1 : 1 ≤ n := by rw [hn]; exact List.length_pos_iff.2 h0
  have hq1 : fcmpB .lss q 0 = some false := by rw [lss_S hq zero_S, decide_eq_false (by omega)]
  have hq2 : fcmpB .gtr q 4607182418800017408 = some false := by rw [gtr_S hq one_S, decide_eq_false (by omega)]
  refine ret_of_G Try.func14 rfl Try.ntmps14 rfl ?_
  simp only [argEnv]
  refine rn ?_
  rw [hlen]
  refine rn ?_
  refine sCallx c13 (fun _ => isNaN_ok q false w (self_S hq)) ?_
  intro w1 hx1
  refine rn ?_
  first | refine G.condD rfl (fun hc => ?_) (fun hc => ?_) | refine G.condN rfl (fun hc => ?_) (fun hc => ?_) | refine G.cond rfl (fun hc => ?_) (fun hc => ?_)
  · exfalso
    simp only [Bool.or_false, decide_eq_true_eq] at hc
    omega
  refine rn ?_
  refine GL.cons (Step.fcmp (r := false) rfl (Op1.of rfl (by first | exact fun _ => rfl | exact fun h => h | exact fun h => bL h | exact fun h => bL (bL h) | exact fun h => bL (bL (bL h)))) (Op1.of rfl (by first | exact fun _ => rfl | exact fun h => h | exact fun h => bL h | exact fun h => bL (bL h) | exact fun h => bL (bL (bL h)))) hq1 rfl ?_)
  refine rn ?_
  refine GL.cons (Step.fcmp (r := false) rfl (Op1.of rfl (by first | exact fun _ => rfl | exact fun h => h | exact fun h => bL h | exact fun h => bL (bL h) | exact fun h => bL (bL (bL h)))) (Op1.of rfl (by first | exact fun _ => rfl | exact fun h => h | exact fun h => bL h | exact fun h => bL (bL h) | exact fun h => bL (bL (bL h)))) hq2 rfl ?_)
  refine rn ?_
  refine sCall c48 (clone_ok v _ w1 (hv.to hx1) (by omega) h0) ?_
  rintro u w2 ⟨ho, hx2⟩
  refine rn ?_
  refine sCall c49 (sortN_ok K w1.heap.size u xs w2 ho hx2.size hK (by omega)) ?_
  rintro _ w3 ⟨ys, ho3, hp3, hs3, hb3, hB3⟩
  have hsl3 := ho3.sli
  have hylen : ys.length = n := by rw [hp3.length_eq, hn]
  have hlen3 : (ys.map fC).length = n := by rw [List.length_map, hylen]
  have hx3 : Ext w w3 := hx1.trans (Below.trans (B := w1.heap.size) hx2 hb3)
  have hT : P * (n - 1) ≤ 1024 * (n - 1) := Nat.mul_le_mul_right _ hP
  have hgy : Good K ys := fun x hx => hK x (hp3.subset hx)
  have hgb : ∀ i, i < n → (K (at_ ys i)).natAbs ≤ 1000000 := fun i hi => hKb _ (hp3.subset (List.mem_of_getElem? (at_get (by omega))))
  obtain ⟨i, hi⟩ : ∃ i, P * (n - 1) / 1024 = i := ⟨_, rfl⟩
  obtain ⟨k, hk⟩ : ∃ k, min (i + 1) (n - 1) = k := ⟨_, rfl⟩
  have hin : i < n := by omega
  have hkn : k < n := by omega
  obtain ⟨r, f, wB, o, c, d, s, k1, k2, k3, k4, k5, k6, k7, k8, k9⟩ := share_fl hP hn1 (by omega) hq (hgy.at (i := i) (by omega)) (hgy.at (i := k) (by omega)) (hgb i hin) (hgb k hkn)
  have hsv : IsS 10 s (qv (fun i => K (at_ zs i)) n P) := by
    rw [← qv_congr (f := fun i => K (at_ ys i)) hP hn1 fun i hi => srt_uniq hp3 hz1 hs3 hz2 i (by omega)]
    unfold qv
    rw [hi, hk]
    exact k9
  rw [hi] at k3
  have hgi : (ys.map fC)[i]? = some (fC (at_ ys i)) := by rw [List.getElem?_map, at_get (by omega)]; rfl
  have hgk : (ys.map fC)[k]? = some (fC (at_ ys k)) := by rw [List.getElem?_map, at_get (by omega)]; rfl
  generalize at_ ys i = yi at k6 hgi
  generalize at_ ys k = yk at k7 hgk
  refine rn ?_
  rw [hlen3]
  refine rn ?_
  refine sAd tb (r := ((n - 1 : Nat) : Int)) ?_ (hp := (wrap_i64 (n := ((n : Nat) : Int) - 1) (by omega) (by omega)).trans (by omega))
  refine GL.cons (Step.i2f tb rfl (Op1.of rfl (by first | exact fun _ => rfl | exact fun h => h | exact fun h => bL h | exact fun h => bL (bL h) | exact fun h => bL (bL (bL h)))) rfl rfl rfl rfl ?_)
  refine GL.cons (Step.flt (r := r) rfl (Op1.of rfl (by first | exact fun _ => rfl | exact fun h => h | exact fun h => bL h | exact fun h => bL (bL h) | exact fun h => bL (bL (bL h)))) (Op1.of rfl (by first | exact fun _ => rfl | exact fun h => h | exact fun h => bL h | exact fun h => bL (bL h) | exact fun h => bL (bL (bL h)))) k1 rfl ?_)
  refine rn ?_
  refine sCall c29 (floor_ok r f w3 (k2 _)) ?_
  rintro _ w4 ⟨rfl, hw4⟩
  obtain rfl : w3 = w4 := hw4.symm
  refine GL.cons (Step.f2i (m := ((i : Nat) : Int)) tb rfl (Op1.of rfl (by first | exact fun _ => rfl | exact fun h => h | exact fun h => bL h | exact fun h => bL (bL h) | exact fun h => bL (bL (bL h)))) rfl rfl k3 rfl ?_)
  refine rn ?_
  refine sAd tb (r := ((i + 1 : Nat) : Int)) ?_ (hp := (wrap_i64 (n := ((i : Nat) : Int) + 1) (by omega) (by omega)).trans (by omega))
  refine rn ?_
  rw [hlen3]
  refine rn ?_
  refine sAd tb (r := ((n - 1 : Nat) : Int)) ?_ (hp := (wrap_i64 (n := ((n : Nat) : Int) - 1) (by omega) (by omega)).trans (by omega))
  refine GL.cons (Step.min2 rfl (Op1.of rfl (by first | exact fun _ => rfl | exact fun h => h | exact fun h => bL h | exact fun h => bL (bL h) | exact fun h => bL (bL (bL h)))) (Op1.of rfl (by first | exact fun _ => rfl | exact fun h => h | exact fun h => bL h | exact fun h => bL (bL h) | exact fun h => bL (bL (bL h)))) rfl ?_)
  have hmin : (if ((n - 1 : Nat) : Int) < ((i + 1 : Nat) : Int) then ((n - 1 : Nat) : Int) else ((i + 1 : Nat) : Int)) = (k : Int) := by split <;> omega
  rw [hmin]
  refine rn ?_
  refine sCall c29 (floor_ok r f w3 (k2 _)) ?_
  rintro _ w4 ⟨rfl, hw4⟩
  obtain rfl : w3 = w4 := hw4.symm
  refine GL.cons (Step.flt (r := wB) rfl (Op1.of rfl (by first | exact fun _ => rfl | exact fun h => h | exact fun h => bL h | exact fun h => bL (bL h) | exact fun h => bL (bL (bL h)))) (Op1.of rfl (by first | exact fun _ => rfl | exact fun h => h | exact fun h => bL h | exact fun h => bL (bL h) | exact fun h => bL (bL (bL h)))) k4 rfl ?_)
  refine rn ?_
  refine G.regionM [(0, true), (1, true), (2, true), (3, true), (4, true), (5, true), (6, true), (7, true), (8, true), (9, true), (10, true), (11, true), (12, true), (13, true), (14, true)] (Ext w3) (by kernel_rfl) (by kernel_rfl) rfl mixed (Ext.drew w3) rfl ?_
  refine rd ?_
  refine dIa tb i ?_ (hj := fun _ => ⟨rfl, by rw [hlen3]; omega⟩)
  refine rd ?_
  refine GM.read (fun w' hS => Step.flt (r := o) rfl (Op1.of rfl (by first | exact fun _ => rfl | exact fun h => h | exact fun h => bL h | exact fun h => bL (bL h) | exact fun h => bL (bL (bL h)))) (Op1.of rfl (by first | exact fun _ => rfl | exact fun h => h | exact fun h => bL h | exact fun h => bL (bL h) | exact fun h => bL (bL (bL h)))) k5 rfl ⟨rfl, rfl⟩) rfl rfl ?_
  refine GM.read (fun w' hS => Step.flt (r := c) rfl (Op1.of rfl (by first | exact fun _ => rfl | exact fun h => h | exact fun h => bL h | exact fun h => bL (bL h) | exact fun h => bL (bL (bL h)))) (Op1.of rfl (by first | exact fun _ => rfl | exact fun h => h | exact fun h => bL h | exact fun h => bL (bL h) | exact fun h => bL (bL (bL h)))) k6 rfl ⟨rfl, rfl⟩) rfl rfl ?_
  refine rd ?_
  refine dIa tb k ?_ (hj := fun _ => ⟨rfl, by rw [hlen3]; omega⟩)
  refine rd ?_
  refine GM.read (fun w' hS => Step.flt (r := d) rfl (Op1.of rfl (by first | exact fun _ => rfl | exact fun h => h | exact fun h => bL h | exact fun h => bL (bL h) | exact fun h => bL (bL (bL h)))) (Op1.of rfl (by first | exact fun _ => rfl | exact fun h => h | exact fun h => bL h | exact fun h => bL (bL h) | exact fun h => bL (bL (bL h)))) k7 rfl ⟨rfl, rfl⟩) rfl rfl ?_
  refine GM.read (fun w' hS => Step.flt (r := s) rfl (Op1.of rfl (by first | exact fun _ => rfl | exact fun h => h | exact fun h => bL h | exact fun h => bL (bL h) | exact fun h => bL (bL (bL h)))) (Op1.of rfl (by first | exact fun _ => rfl | exact fun h => h | exact fun h => bL h | exact fun h => bL (bL h) | exact fun h => bL (bL (bL h)))) k8 rfl ⟨rfl, rfl⟩) rfl rfl ?_
  refine rd ?_
  refine GM.nil ?_
  refine rn ?_
  refine G.ret1 rfl rfl rfl rfl ?_
  exact ⟨⟨s, rfl, by rw [← hn]; exact hsv⟩, hx3.drew'⟩
end Go.Proofs.Ytbnckhfkkoncbaa
end
section
open Go Go.Vg Go.RowKit Go.Proofs Go.Proofs.Ytbnckhfkkoncbaa
namespace Go.Proofs.Ytbnckhfkkoncbaa

/-- the days from a month to the year's end -/
def left (b : Bool) : Nat → Int
  | 1 => if b then 366 else 365
  | 2 => if b then 335 else 334
  | 3 => 306 | 4 => 275 | 5 => 245 | 6 => 214 | 7 => 184 | 8 => 153 | 9 => 122 | 10 => 92 | 11 => 61 | 12 => 31
  | _ => 0
end Go.Proofs.Ytbnckhfkkoncbaa
end
section
open Go Go.Vg Go.RowKit Go.Proofs Go.Proofs.Ytbnckhfkkoncbaa
namespace Go.Proofs.Ytbnckhfkkoncbaa
open Ieee

abbrev cP : Nat := 4771362005757984768
def nanB : Nat := 9221120237041090561
theorem nan_ok (w : World) : Ret Try.prog 46 ⟨[]⟩ w fun v w' => v = Fl nanB ∧ w' = w := by
  refine ret_of_G Try.func46 rfl Try.ntmps46 rfl ?_
  simp only [argEnv]
  refine rn ?_
  refine GL.cons (Step.ext rfl rfl (by repeat (first | exact OpL.nil | refine OpL.cons (Op1.of rfl (by first | exact fun _ => rfl | exact fun h => h | exact fun h => bL h | exact fun h => bL (bL h) | exact fun h => bL (bL (bL h)))) ?_)) (run_ofbits Try.func44 (by kernel_rfl) (by kernel_rfl) (by kernel_rfl) (by kernel_rfl) nanB _) rfl ?_)
  refine rn ?_
  refine G.ret1 rfl rfl rfl rfl ?_
  exact ⟨rfl, rfl⟩
end Go.Proofs.Ytbnckhfkkoncbaa
end
section
namespace Go.Vg
open Go.RowKit
section
variable {X : Cx} {ops : Array Oper} {l : List Oper} {k : List Kt} {e : Env} {w : World} {N : Env → World → Prop} {d : Nat} {c : Option Bool} {ty : TypeId} {pos : String} {af : Array Edge} {g : Option (Nat × Bool)}
theorem Step.fneg {xt : TypeId} {x : Operand} {a r : Nat} (hg : guardE ops e ⟨some d, .unOp .neg xt x, ty, pos, af, g⟩ = some c)
    (hx : Op1 e c x (Fl a)) (hr : a ^^^ 9223372036854775808 = r) (hn : Nat.blt d X.n = true)
    (h : N ((d, c, Fl r) :: e) w) : Step X ops ⟨some d, .unOp .neg xt x, ty, pos, af, g⟩ e w N :=
  Step.quiet rfl (by simpa [Nat.blt_eq] using hn) hg (fun _ hh => by cases hh) (fun t hf hc => by
    have hu : (Op.unary .neg (Fl a)).run X.P w = .ok (Fl r) w := by rw [← hr]; rfl
    simp only [execOp, hx.val hf hc, Sem.run_bind, hu, Result.andThen_ok, Sem.run_pure]) h
end
end Go.Vg
end
section
open Go Go.Vg Go.RowKit Go.Proofs Go.Proofs.Ytbnckhfkkoncbaa
namespace Go.Proofs.Ytbnckhfkkoncbaa

theorem infP_ok (w : World) : Ret Try.prog 47 ⟨[.int .i64 1]⟩ w fun v w' => v = Fl 9218868437227405312 ∧ w' = w := by
  refine ret_of_G Try.func47 rfl Try.ntmps47 rfl ?_
  simp only [argEnv]
  refine rn ?_
  refine GL.cons (Step.ext rfl rfl (by repeat (first | exact OpL.nil | refine OpL.cons (Op1.of rfl (by first | exact fun _ => rfl | exact fun h => h | exact fun h => bL h | exact fun h => bL (bL h) | exact fun h => bL (bL (bL h)))) ?_)) (run_ofbits Try.func44 (by kernel_rfl) (by kernel_rfl) (by kernel_rfl) (by kernel_rfl) 9218868437227405312 _) rfl ?_)
  refine rn ?_
  refine G.ret1 rfl rfl rfl rfl ?_
  exact ⟨rfl, rfl⟩
theorem infN_ok (w : World) : Ret Try.prog 47 ⟨[.int .i64 (-1)]⟩ w fun v w' => v = Fl 18442240474082181120 ∧ w' = w := by
  refine ret_of_G Try.func47 rfl Try.ntmps47 rfl ?_
  simp only [argEnv]
  refine rn ?_
  refine GL.cons (Step.ext rfl rfl (by repeat (first | exact OpL.nil | refine OpL.cons (Op1.of rfl (by first | exact fun _ => rfl | exact fun h => h | exact fun h => bL h | exact fun h => bL (bL h) | exact fun h => bL (bL (bL h)))) ?_)) (run_ofbits Try.func44 (by kernel_rfl) (by kernel_rfl) (by kernel_rfl) (by kernel_rfl) 18442240474082181120 _) rfl ?_)
  refine rn ?_
  refine G.ret1 rfl rfl rfl rfl ?_
  exact ⟨rfl, rfl⟩
theorem isInfP_ok (w : World) : Ret Try.prog 16 ⟨[Fl 9218868437227405312, .int .i64 1]⟩ w fun v w' => v = .bool true ∧ Ext w w' := by
  refine ret_of_G Try.func16 rfl Try.ntmps16 rfl ?_
  simp only [argEnv]
  refine rn ?_
  refine GL.cons (Step.fcmp (r := true) rfl (Op1.of rfl (by first | exact fun _ => rfl | exact fun h => h | exact fun h => bL h | exact fun h => bL (bL h) | exact fun h => bL (bL (bL h)))) (Op1.of rfl (by first | exact fun _ => rfl | exact fun h => h | exact fun h => bL h | exact fun h => bL (bL h) | exact fun h => bL (bL (bL h)))) (by kernel_rfl) rfl ?_)
  refine rn ?_
  refine G.ret1 rfl rfl rfl rfl ?_
  exact ⟨rfl, Ext.refl _⟩
theorem isInfN_ok (w : World) : Ret Try.prog 16 ⟨[Fl 18442240474082181120, .int .i64 (-1)]⟩ w fun v w' => v = .bool true ∧ Ext w w' := by
  refine ret_of_G Try.func16 rfl Try.ntmps16 rfl ?_
  simp only [argEnv]
  refine rn ?_
  refine GL.cons (Step.fneg (r := 9218868437227405312) rfl (Op1.of rfl (by first | exact fun _ => rfl | exact fun h => h | exact fun h => bL h | exact fun h => bL (bL h) | exact fun h => bL (bL (bL h)))) (by kernel_rfl) rfl ?_)
  refine rn ?_
  refine GL.cons (Step.fcmp (r := true) rfl (Op1.of rfl (by first | exact fun _ => rfl | exact fun h => h | exact fun h => bL h | exact fun h => bL (bL h) | exact fun h => bL (bL (bL h)))) (Op1.of rfl (by first | exact fun _ => rfl | exact fun h => h | exact fun h => bL h | exact fun h => bL (bL h) | exact fun h => bL (bL (bL h)))) (by kernel_rfl) rfl ?_)
  refine rn ?_
  refine G.ret1 rfl rfl rfl rfl ?_
  exact ⟨rfl, Ext.refl _⟩
theorem quantE_ok (q : Nat) (v : Value) (w : World) (hv : Fls w v []) : Ret Try.prog 14 ⟨[Fl q, v]⟩ w fun r w' => r = Fl nanB ∧ Ext w w' := by
  refine ret_of_G Try.func14 rfl Try.ntmps14 rfl ?_
  simp only [argEnv]
  refine rn ?_
  refine GL.cons (Step.off (v := .bool false) rfl (of_decide_eq_true rfl) rfl ?_)
  refine rn ?_
  refine sCall c46 (nan_ok w) ?_
  rintro _ w1 ⟨rfl, rfl⟩
  refine rn ?_
  refine G.ret1 rfl rfl rfl rfl ?_
  exact ⟨rfl, Ext.refl _⟩
theorem quantLo_ok (q : Nat) (v : Value) (xs : List Nat) (w : World) (hv : Fls w v xs) (h0 : xs ≠ []) (hq : fcmpB .neq q q = some false) (hl : fcmpB .lss q 0 = some true) : Ret Try.prog 14 ⟨[Fl q, v]⟩ w fun r w' => r = Fl 18442240474082181120 ∧ Ext w w' := by
  have hlen : (xs.map fC).length = xs.length := List.length_map ..
  have hn1 : 1 ≤ xs.length := List.length_pos_iff.2 h0
  refine ret_of_G Try.func14 rfl Try.ntmps14 rfl ?_
  simp only [argEnv]
  refine rn ?_
  rw [hlen]
  refine rn ?_
  refine sCallx c13 (fun _ => isNaN_ok q false w hq) ?_
  intro w1 hx1
  refine rn ?_
  first | refine G.condD rfl (fun hc => ?_) (fun hc => ?_) | refine G.condN rfl (fun hc => ?_) (fun hc => ?_) | refine G.cond rfl (fun hc => ?_) (fun hc => ?_)
  · exfalso
    simp only [Bool.or_false, decide_eq_true_eq] at hc
    omega
  refine rn ?_
  refine GL.cons (Step.fcmp (r := true) rfl (Op1.of rfl (by first | exact fun _ => rfl | exact fun h => h | exact fun h => bL h | exact fun h => bL (bL h) | exact fun h => bL (bL (bL h)))) (Op1.of rfl (by first | exact fun _ => rfl | exact fun h => h | exact fun h => bL h | exact fun h => bL (bL h) | exact fun h => bL (bL (bL h)))) hl rfl ?_)
  refine rn ?_
  refine sCall c47 (infN_ok w1) ?_
  rintro _ w2 ⟨rfl, rfl⟩
  refine rn ?_
  refine G.ret1 rfl rfl rfl rfl ?_
  exact ⟨rfl, hx1⟩
theorem quantHi_ok (q : Nat) (v : Value) (xs : List Nat) (w : World) (hv : Fls w v xs) (h0 : xs ≠ []) (hq : fcmpB .neq q q = some false) (hl : fcmpB .lss q 0 = some false) (hg : fcmpB .gtr q 4607182418800017408 = some true) : Ret Try.prog 14 ⟨[Fl q, v]⟩ w fun r w' => r = Fl 9218868437227405312 ∧ Ext w w' := by
  have hlen : (xs.map fC).length = xs.length := List.length_map ..
  have hn1 : 1 ≤ xs.length := List.length_pos_iff.2 h0
  refine ret_of_G Try.func14 rfl Try.ntmps14 rfl ?_
  simp only [argEnv]
  refine rn ?_
  rw [hlen]
  refine rn ?_
  refine sCallx c13 (fun _ => isNaN_ok q false w hq) ?_
  intro w1 hx1
  refine rn ?_
  first | refine G.condD rfl (fun hc => ?_) (fun hc => ?_) | refine G.condN rfl (fun hc => ?_) (fun hc => ?_) | refine G.cond rfl (fun hc => ?_) (fun hc => ?_)
  · exfalso
    simp only [Bool.or_false, decide_eq_true_eq] at hc
    omega
  refine rn ?_
  refine GL.cons (Step.fcmp (r := false) rfl (Op1.of rfl (by first | exact fun _ => rfl | exact fun h => h | exact fun h => bL h | exact fun h => bL (bL h) | exact fun h => bL (bL (bL h)))) (Op1.of rfl (by first | exact fun _ => rfl | exact fun h => h | exact fun h => bL h | exact fun h => bL (bL h) | exact fun h => bL (bL (bL h)))) hl rfl ?_)
  refine rn ?_
  refine GL.cons (Step.fcmp (r := true) rfl (Op1.of rfl (by first | exact fun _ => rfl | exact fun h => h | exact fun h => bL h | exact fun h => bL (bL h) | exact fun h => bL (bL (bL h)))) (Op1.of rfl (by first | exact fun _ => rfl | exact fun h => h | exact fun h => bL h | exact fun h => bL (bL h) | exact fun h => bL (bL (bL h)))) hg rfl ?_)
  refine rn ?_
  refine sCall c47 (infP_ok w1) ?_
  rintro _ w2 ⟨rfl, rfl⟩
  refine rn ?_
  refine G.ret1 rfl rfl rfl rfl ?_
  exact ⟨rfl, hx1⟩
theorem lessF_ok (a b : Nat) (n k : Int) (w : World) (h1 : IsI a n) (h2 : IsI b k) : Ret Try.prog 53 ⟨[Fl a, Fl b]⟩ w fun r w' => r = .bool (decide (n < k)) ∧ Ext w w' := by
  refine ret_of_G Try.func53 rfl Try.ntmps53 rfl ?_
  simp only [argEnv]
  refine rn ?_
  refine GL.cons (Step.fcmp (r := decide (n < k)) rfl (Op1.of rfl (by first | exact fun _ => rfl | exact fun h => h | exact fun h => bL h | exact fun h => bL (bL h) | exact fun h => bL (bL (bL h)))) (Op1.of rfl (by first | exact fun _ => rfl | exact fun h => h | exact fun h => bL h | exact fun h => bL (bL h) | exact fun h => bL (bL (bL h)))) (lss_I h1 h2) rfl ?_)
  refine rn ?_
  refine G.ret1 rfl rfl rfl rfl ?_
  exact ⟨rfl, Ext.refl _⟩
theorem moreF_ok (a b : Nat) (n k : Int) (w : World) (h1 : IsI a n) (h2 : IsI b k) : Ret Try.prog 54 ⟨[Fl a, Fl b]⟩ w fun r w' => r = .bool (decide (k < n)) ∧ Ext w w' := by
  refine ret_of_G Try.func54 rfl Try.ntmps54 rfl ?_
  simp only [argEnv]
  refine rn ?_
  refine GL.cons (Step.fcmp (r := decide (k < n)) rfl (Op1.of rfl (by first | exact fun _ => rfl | exact fun h => h | exact fun h => bL h | exact fun h => bL (bL h) | exact fun h => bL (bL (bL h)))) (Op1.of rfl (by first | exact fun _ => rfl | exact fun h => h | exact fun h => bL h | exact fun h => bL (bL h) | exact fun h => bL (bL (bL h)))) (gtr_I h1 h2) rfl ?_)
  refine rn ?_
  refine G.ret1 rfl rfl rfl rfl ?_
  exact ⟨rfl, Ext.refl _⟩
set_option maxHeartbeats 4000000 in
/-- the best of a row -/
theorem best_ok (f : FuncId) (hcl : Callable Try.prog f) (bt : Int → Int → Bool) (hf : ∀ (a b : Nat) (n k : Int) (w : World), IsI a n → IsI b k → Ret Try.prog f ⟨[Fl a, Fl b]⟩ w fun r w' => r = .bool (bt n k) ∧ Ext w w')
    (hirr : ∀ a, bt a a = false) (htr : ∀ a b c, bt a b = false → bt c b = true → bt a c = false) (K : Nat → Int) (v : Value) (x0 : Nat) (xs : List Nat) (w : World) (hv : Fls w v (x0 :: xs)) (hK : Good K (x0 :: xs)) (hn2 : xs.length ≤ 60) :
    Ret Try.prog 52 ⟨[v, .func (.func f) #[] #[]]⟩ w fun r w' => (∃ b, r = Fl b ∧ b ∈ x0 :: xs ∧ ∀ x ∈ x0 :: xs, bt (K x) (K b) = false) ∧ Ext w w' := by
  have hg0 : ((x0 :: xs).map fC)[0]? = some (fC x0) := rfl
  have hlen : ((x0 :: xs).map fC).length = xs.length + 1 := by simp
  refine ret_of_G Try.func52 rfl Try.ntmps52 rfl ?_
  simp only [argEnv]
  refine rn ?_
  refine sIa tb 0 ?_ (hj := fun _ => ⟨rfl, by rw [hlen]; omega⟩)
  refine rn ?_
  refine GL.cons (Step.sliceVl tb 1 rfl (Op1.of rfl (by first | exact fun _ => rfl | exact fun h => h | exact fun h => bL h | exact fun h => bL (bL h) | exact fun h => bL (bL (bL h)))) (Op1.of rfl (by first | exact fun _ => rfl | exact fun h => h | exact fun h => bL h | exact fun h => bL (bL h) | exact fun h => bL (bL (bL h)))) rfl rfl (fun _ => ⟨_, hv⟩) (fun _ => ⟨rfl, by rw [hlen]; omega⟩) rfl ?_)
  have hsub : Fls w (subS v 1 1 ((x0 :: xs).map fC).length) xs := by
    have := Sli.sub hv (l := 1) (h := ((x0 :: xs).map fC).length) (by rw [hlen]; omega) (Nat.le_refl _)
    simpa [List.take_of_length_le] using this
  generalize subS v 1 1 ((x0 :: xs).map fC).length = u at hsub ⊢
  have hlu : (xs.map fC).length = xs.length := List.length_map ..
  refine rn ?_
  rw [hlu]
  refine rn ?_
  refine (G.loop (fun x : Nat × Nat => [(0, none, v), (1, none, .func (.func f) #[] #[]), (5, none, Fl x.2), (12, none, u), (13, none, .int .i64 xs.length), (14, none, .int .i64 x.1)]) (fun x W => Ext w W ∧ x.1 ≤ xs.length ∧ x.2 ∈ x0 :: xs.take x.1 ∧ ∀ y ∈ x0 :: xs.take x.1, bt (K y) (K x.2) = false) (fun x => xs.length - x.1) (0, x0) (by repeat (first | exact Sub.nil _ | refine Sub.cons rfl ?_)) ⟨Ext.refl _, Nat.zero_le _, by simp, by simp [hirr]⟩ ?_)
  rintro ⟨j, so⟩ W ⟨hx, hj, hso, hbest⟩
  simp only at hj hso hbest ⊢
  have hsubW := hsub.to hx
  refine rn ?_
  first | refine G.condD rfl (fun hc => ?_) (fun hc => ?_) | refine G.condN rfl (fun hc => ?_) (fun hc => ?_) | refine G.cond rfl (fun hc => ?_) (fun hc => ?_)
  · have hjl : j < xs.length := by omega
    obtain ⟨y, hy⟩ : ∃ y, xs[j]? = some y := ⟨_, List.getElem?_eq_getElem hjl⟩
    have hgy : (xs.map fC)[j]? = some (fC y) := by simp [hy]
    have htk : xs.take (j + 1) = xs.take j ++ [y] := by rw [List.take_add_one, hy]; rfl
    have hIy : IsI y (K y) := hK y (List.mem_cons_of_mem _ (List.mem_of_getElem? hy))
    have hIs : IsI so (K so) := hK so (by
      rcases List.mem_cons.1 hso with h | h
      · rw [h]; exact List.mem_cons_self
      · exact List.mem_cons_of_mem _ (List.mem_of_mem_take h))
    refine rn ?_
    refine sIa tb j ?_ (hj := fun _ => ⟨rfl, by rw [hlu]; omega⟩)
    refine rn ?_
    refine GL.cons (Step.callXC rfl (Op1.of rfl (by first | exact fun _ => rfl | exact fun h => h | exact fun h => bL h | exact fun h => bL (bL h) | exact fun h => bL (bL (bL h)))) rfl (by repeat (first | exact OpL.nil | refine OpL.cons (Op1.of rfl (by first | exact fun _ => rfl | exact fun h => h | exact fun h => bL h | exact fun h => bL (bL h) | exact fun h => bL (bL (bL h)))) ?_)) hcl rfl (fun _ => hf y so (K y) (K so) _ hIy hIs) ?_ (vs := [Fl y, Fl so]))
    intro W1 hx1
    refine rn ?_
    refine sCallx c13 (fun _ => isNaN_ok so false W1 (isI_nn hIs)) ?_
    intro W2 hx2
    have hx02 := (hx.trans hx1).trans hx2
    refine rn ?_
    refine G.join (fun s : Nat => [(0, none, v), (1, none, .func (.func f) #[] #[]), (5, none, Fl s), (12, none, u), (13, none, .int .i64 xs.length), (14, none, .int .i64 j)]) (fun s W => W = W2 ∧ s ∈ x0 :: xs.take (j + 1) ∧ ∀ z ∈ x0 :: xs.take (j + 1), bt (K z) (K s) = false) ?_ ?_
    rotate_left
    · first | refine G.condD rfl (fun hc => ?_) (fun hc => ?_) | refine G.condN rfl (fun hc => ?_) (fun hc => ?_) | refine G.cond rfl (fun hc => ?_) (fun hc => ?_)
      · simp only [Bool.or_false] at hc
        refine rn ?_
        refine G.met y (by repeat (first | exact Sub.nil _ | refine Sub.cons rfl ?_)) ⟨rfl, ?_, ?_⟩
        · rw [htk]; simp
        · intro z hz
          rw [htk, ← List.cons_append] at hz
          rcases List.mem_append.1 hz with h | h
          · exact htr _ _ _ (hbest z h) hc
          · rw [List.mem_singleton.1 h]; exact hirr _
      · simp only [Bool.or_false] at hc
        refine rn ?_
        refine G.met so (by repeat (first | exact Sub.nil _ | refine Sub.cons rfl ?_)) ⟨rfl, ?_, ?_⟩
        · rw [htk, ← List.cons_append]; exact List.mem_append_left _ hso
        · intro z hz
          rw [htk, ← List.cons_append] at hz
          rcases List.mem_append.1 hz with h | h
          · exact hbest z h
          · rw [List.mem_singleton.1 h]; exact Bool.eq_false_iff.2 (by simpa using hc)
    rintro s _ ⟨rfl, hs1, hs2⟩
    refine rn ?_
    refine sAd tb ?_
    refine rn ?_
    exact G.lp (x := (j, so)) (j + 1, s) (by repeat (first | exact Sub.nil _ | refine Sub.cons rfl ?_)) ⟨hx02, hjl, hs1, hs2⟩ (by show xs.length - (j + 1) < xs.length - j; omega)
  · obtain rfl : j = xs.length := by omega
    rw [List.take_length] at hso hbest
    refine rn ?_
    refine G.ret1 rfl rfl rfl rfl ?_
    exact ⟨⟨so, rfl, hso, hbest⟩, hx⟩
set_option maxHeartbeats 4000000 in
theorem foldMin_ok (K : Nat → Int) (v : Value) (xs : List Nat) (w : World) (hv : Fls w v xs) (h0 : xs ≠ []) (hK : Good K xs) (hn2 : xs.length ≤ 60) :
    Ret Try.prog 15 ⟨[S [109, 105, 110], v, Fl 0]⟩ w fun r w' => (∃ b, r = .tuple ⟨[Fl b, .bool true]⟩ ∧ b ∈ xs ∧ ∀ x ∈ xs, K b ≤ K x) ∧ Ext w w' := by
  obtain ⟨x0, ys, rfl⟩ := List.exists_cons_of_ne_nil h0
  have hlen : ((x0 :: ys).map fC).length = ys.length + 1 := by simp
  refine ret_of_G Try.func15 rfl Try.ntmps15 rfl ?_
  simp only [argEnv]
  refine rn ?_
  rw [hlen]
  refine rn ?_
  refine sCall c52 (best_ok 53 c53 (fun n k => decide (n < k)) lessF_ok (fun a => by simp) (fun a b c h1 h2 => by simp only [decide_eq_false_iff_not, decide_eq_true_eq] at *; omega) K v x0 ys w hv hK (by simp at hn2; omega)) ?_
  rintro _ w1 ⟨⟨b, rfl, hb1, hb2⟩, hx1⟩
  refine rn ?_
  refine G.ret2 rfl rfl rfl rfl rfl ?_
  exact ⟨⟨b, rfl, hb1, fun x hx => by have := hb2 x hx; simp only [decide_eq_false_iff_not] at this; omega⟩, hx1⟩
set_option maxHeartbeats 4000000 in
theorem foldMax_ok (K : Nat → Int) (v : Value) (xs : List Nat) (w : World) (hv : Fls w v xs) (h0 : xs ≠ []) (hK : Good K xs) (hn2 : xs.length ≤ 60) :
    Ret Try.prog 15 ⟨[S [109, 97, 120], v, Fl 0]⟩ w fun r w' => (∃ b, r = .tuple ⟨[Fl b, .bool true]⟩ ∧ b ∈ xs ∧ ∀ x ∈ xs, K x ≤ K b) ∧ Ext w w' := by
  obtain ⟨x0, ys, rfl⟩ := List.exists_cons_of_ne_nil h0
  have hlen : ((x0 :: ys).map fC).length = ys.length + 1 := by simp
  refine ret_of_G Try.func15 rfl Try.ntmps15 rfl ?_
  simp only [argEnv]
  refine rn ?_
  rw [hlen]
  refine rn ?_
  refine sCall c52 (best_ok 54 c54 (fun n k => decide (k < n)) moreF_ok (fun a => by simp) (fun a b c h1 h2 => by simp only [decide_eq_false_iff_not, decide_eq_true_eq] at *; omega) K v x0 ys w hv hK (by simp at hn2; omega)) ?_
  rintro _ w1 ⟨⟨b, rfl, hb1, hb2⟩, hx1⟩
  refine rn ?_
  refine G.ret2 rfl rfl rfl rfl rfl ?_
  exact ⟨⟨b, rfl, hb1, fun x hx => by have := hb2 x hx; simp only [decide_eq_false_iff_not] at this; omega⟩, hx1⟩
end Go.Proofs.Ytbnckhfkkoncbaa
end
section
namespace Go.Vg
open Go.RowKit Ieee Go.Nm
/-- a word that is no number -/
def NanW (r : Nat) : Prop := ∃ R s, infB < R ∧ R < 2 ^ 63 ∧ r = R + sgn s
theorem NanW.read {r : Nat} (h : NanW r) : ∃ s f, double.read r = .nan s f := by
  obtain ⟨R, s, h1, h2, rfl⟩ := h
  rw [inf_eq] at h1
  rw [← word_rung]
  refine ⟨s, R - 9218868437227405312, ?_⟩
  unfold Format.read Format.word
  rw [d_bin, d_inf, d_sw]
  have e1 : (if s then 9223372036854775808 + R else R) % 9223372036854775808 = R := by cases s <;> simp <;> omega
  have e2 : (((if s then 9223372036854775808 + R else R) / 9223372036854775808 % 2 == 1)) = s := by
    cases s
    · rw [if_neg (by simp), Nat.div_eq_of_lt (by omega)]; rfl
    · rw [if_pos rfl, show (9223372036854775808 + R) / 9223372036854775808 = 1 by omega]; rfl
  dsimp only
  rw [e1, e2, if_neg (by omega), if_neg (by omega), if_neg (by omega)]
section
variable {X : Cx} {ops : Array Oper} {e : Env} {w : World} {N : Env → World → Prop} {d : Nat} {ty : TypeId} {pos : String} {af : Array Edge} {g : Option (Nat × Bool)}
end
end Go.Vg
end
section
namespace Go.Vg
open Go.RowKit

abbrev TV := List (List UInt8 × Value)
def mvC (es : TV) : List (Value × Value) := es.map fun p => (S p.1, p.2)
/-- block b is a map of texts by texts -/
def Mv (w : World) (b : Nat) (es : TV) : Prop := ∃ ms clock, w.heap[b]? = some (.map ⟨ms⟩ clock) ∧ ms.map (fun e => (e.key, e.val)) = mvC es
theorem Mv.lt {w : World} {b : Nat} {es : TV} (h : Mv w b es) : b < w.heap.size := by
  obtain ⟨ms, clock, h, _⟩ := h; exact (Array.getElem?_eq_some_iff.1 h).1
theorem Mv.to {w w' : World} {b : Nat} {es : TV} (h : Mv w b es) (hx : Ext w w') : Mv w' b es := by
  obtain ⟨ms, clock, h, h2⟩ := h
  exact ⟨ms, clock, by rw [hx.block b (Array.getElem?_eq_some_iff.1 h).1]; exact h, h2⟩
theorem Mv.wr {w w' : World} {b b' : Nat} {es : TV} (h : Mv w b es) (hw : Wr b' w w') (hne : b ≠ b') : Mv w' b es := by
  obtain ⟨ms, clock, h, h2⟩ := h
  exact ⟨ms, clock, by rw [hw.block b hne]; exact h, h2⟩

section
variable {X : Cx} {ops : Array Oper} {e : Env} {w : World} {N : Env → World → Prop} {d : Nat} {c : Option Bool} {ty : TypeId} {pos : String} {af : Array Edge} {g : Option (Nat × Bool)}
end
section
variable {X : Cx} {ops : Array Oper} {l : List Oper} {k : List Kt} {e : Env} {w : World} {d : Nat} {c : Option Bool} {ty : TypeId} {pos : String} {af : Array Edge} {g : Option (Nat × Bool)}
end
end Go.Vg
end
section
namespace Go.Vg
open Go.RowKit

/-- it returns, and S holds; or it panics, and Z holds -/
def RetP (P : Program) (f : FuncId) (args : Array Value) (w : World) (S : Value → World → Prop) (Z : List PanicEntry → World → Prop) : Prop :=
  Calls P f args w fun en w' => (∃ v, en = .returned v ∧ S v w') ∨ (∃ ch, en = .panicked ch ∧ Z ch w')
theorem RetP.mono {P : Program} {f : FuncId} {args : Array Value} {w : World} {S S' : Value → World → Prop} {Z Z' : List PanicEntry → World → Prop} (h : RetP P f args w S Z) (hs : ∀ v w', S v w' → S' v w') (hz : ∀ c w', Z c w' → Z' c w') : RetP P f args w S' Z' :=
  Calls.mono h fun _ _ h => h.elim (fun ⟨v, he, hv⟩ => .inl ⟨v, he, hs _ _ hv⟩) (fun ⟨c, he, hv⟩ => .inr ⟨c, he, hz _ _ hv⟩)

section steps
variable {X : Cx} {ops : Array Oper} {e : Env} {w : World} {N : Env → World → Prop} {d : Nat} {c : Option Bool} {ty : TypeId} {pos : String} {af : Array Edge} {g : Option (Nat × Bool)} {l : List Oper} {k : List Kt} {lb : List (Oper × Bool)} {W : World → Prop}

theorem StepP.callF {f : FuncId} {args : Array Operand} {ats : Array TypeId} {lo : List Operand} {vs : List Value} {S : Value → World → Prop} {Z : List PanicEntry → World → Prop}
    (hg : guardE ops e ⟨some d, .call { callee := .value (.func f), args := args, argTypes := ats }, ty, pos, af, g⟩ = some none)
    (ha : args = ⟨lo⟩) (hvs : evs e lo = some vs) (hf : Callable X.P f)
    (hn : Nat.blt d X.n = true) (hc : RetP X.P f ⟨vs⟩ w S Z) (hz : ∀ ch w', Z ch w' → X.px ch w')
    (h : ∀ v w', S v w' → N ((d, none, v) :: e) w') : StepP X ops ⟨some d, .call { callee := .value (.func f), args := args, argTypes := ats }, ty, pos, af, g⟩ e w N := by
  intro t K Q hft hK hP
  rw [guardE_wanted hft hg, if_pos (by rfl)]
  refine ⟨fun _ _ => trivial, ?_⟩
  rw [Oper.semAt_eq _ _ _ (fun _ hh => by cases hh)]
  have := evs_map (ds := X.ds) hft hvs
  subst ha
  have h2 : (Array.mk lo).map (Act.mk t X.ds).eval = ⟨vs⟩ := by simp [this]
  have hrun : (execOp (Act.mk t X.ds).eval ⟨some d, .call { callee := .value (.func f), args := ⟨lo⟩, argTypes := ats }, ty, pos, af, g⟩).run X.P w = .ok (.enter f ⟨vs⟩) w := by
    simp only [execOp, resolve, h2, Act.eval, Deferred.ofValue, Sem.run_bind, Sem.run_pure, Result.andThen_ok, invoke, Array.empty_append, Array.append_empty, run_callFunc hf]
  show Oper.uponIn _ _ _ _ _ _ _ ((execOp (Act.mk t X.ds).eval _).run X.P w)
  rw [hrun]
  refine ⟨fun h => by simp [Fence.wide] at h, callsW (Calls.mono hc ?_)⟩
  rintro en w' (⟨v, rfl, hS⟩ | ⟨ch, rfl, hZ⟩)
  · show K (Act.put _ (some d) v) w'
    exact hK _ _ _ (h v w' hS) (hft.put (by simpa [Nat.blt_eq] using hn) none v)
  · exact hP ch t w' (hz ch w' hZ)
theorem StepP.panic {x : Operand} {t : TypeId} {v : Value} (hg : guardE ops e ⟨none, .panic x, ty, pos, af, g⟩ = some none) (hx : Op1 e none x (.iface t v))
    (hz : X.px [{ v := .iface t v, recovered := false }] w) : StepP X ops ⟨none, .panic x, ty, pos, af, g⟩ e w N := by
  intro t' K Q hft hK hP
  rw [guardE_wanted hft hg, if_pos (by rfl)]
  refine ⟨fun _ _ => trivial, ?_⟩
  rw [Oper.semAt_eq _ _ _ (fun _ hh => by cases hh)]
  have hrun : (execOp (Act.mk t' X.ds).eval ⟨none, .panic x, ty, pos, af, g⟩).run X.P w = .halt (.panic (.iface t v)) w := by
    simp only [execOp, hx.val hft rfl, Instr.panic]
    rfl
  show Oper.uponIn _ _ _ _ _ _ _ ((execOp (Act.mk t' X.ds).eval _).run X.P w)
  rw [hrun]
  exact hP _ t' w hz
/-- a guarded call that may panic -/
theorem StepP.on {o : Oper} {c : Bool} (hg : guardE ops e o = some (some c)) (hc : c = true) (h : StepP X ops { o with guard := none } e w N) : StepP X ops o e w N := by
  intro t K Q hf hK hP
  have := h t K Q hf hK hP
  rw [guardE_wanted hf hg]
  subst hc
  rw [if_pos (by rfl)] at this ⊢
  exact this

end steps

/-! ### A world changed at one block, with more behind it -/
structure Kp (b : Nat) (w w' : World) : Prop where
  os : w'.os = w.os
  tape : w'.tape = w.tape
  output : w'.output = w.output
  size : w.heap.size ≤ w'.heap.size
  block : ∀ k, k < w.heap.size → k ≠ b → w'.heap[k]? = w.heap[k]?
theorem Kp.refl (b : Nat) (w : World) : Kp b w w := ⟨rfl, rfl, rfl, Nat.le_refl _, fun _ _ _ => rfl⟩
theorem Kp.trans {b : Nat} {w w1 w2 : World} (h : Kp b w w1) (k : Kp b w1 w2) : Kp b w w2 :=
  ⟨k.os.trans h.os, k.tape.trans h.tape, k.output.trans h.output, Nat.le_trans h.size k.size, fun i hi hne => (k.block i (Nat.lt_of_lt_of_le hi h.size) hne).trans (h.block i hi hne)⟩
/-- a change of a block that was not there before -/
theorem Kp.new {b c : Nat} {w w1 w2 : World} (h : Kp b w w1) (k : Kp c w1 w2) (hc : w.heap.size ≤ c) : Kp b w w2 :=
  ⟨k.os.trans h.os, k.tape.trans h.tape, k.output.trans h.output, Nat.le_trans h.size k.size, fun i hi hne => (k.block i (Nat.lt_of_lt_of_le hi h.size) (by omega)).trans (h.block i hi hne)⟩
end Go.Vg
end
section
namespace Go.Vg
open Go.RowKit

theorem Owns.same {w w' : World} {B : Nat} {v : Value} {et k : Nat} {xs : List (List Value)} (h : Owns w B v et k xs) (hs : ∀ g, g < w.heap.size → v.ownBlock = some g → w'.heap[g]? = w.heap[g]?) : Owns w' B v et k xs := by
  obtain ⟨⟨hl, h⟩, h0⟩ := h
  refine ⟨⟨hl, ?_⟩, h0⟩
  rcases h with h | ⟨g, cap, cur, rfl, h2, h3, h4⟩
  · exact .inl h
  · exact .inr ⟨g, cap, cur, rfl, h2, by rw [hs g (Array.getElem?_eq_some_iff.1 h3).1 rfl]; exact h3, h4⟩
theorem Bx.same {w w' : World} {b : Nat} {us : List Value} (h : Bx w b us) (hs : w'.heap[b]? = w.heap[b]?) : Bx w' b us := by
  obtain ⟨t, h⟩ := h
  exact ⟨t, by rw [hs]; exact h⟩
theorem Owns.lt {w : World} {B : Nat} {v : Value} {et k : Nat} {xs : List (List Value)} (h : Owns w B v et k xs) : ∀ g, v.ownBlock = some g → B ≤ g ∧ g < w.heap.size := by
  intro g hg
  rcases h.1.2 with ⟨rfl, _⟩ | ⟨g', cap, cur, rfl, h2, h3, _⟩
  · simp [Value.ownBlock] at hg
  · simp only [Value.ownBlock, Option.some.injEq] at hg
    subst hg
    exact ⟨h2, (Array.getElem?_eq_some_iff.1 h3).1⟩
end Go.Vg
end
section
namespace Go.Vg
open Go.RowKit
theorem Mv.kept {w w' : World} {b : Nat} {es : TV} (h : Mv w b es) (hx : w'.heap[b]? = w.heap[b]?) : Mv w' b es := by
  obtain ⟨ms, clock, h, h2⟩ := h
  exact ⟨ms, clock, by rw [hx]; exact h, h2⟩
theorem Mv.below {w w' : World} {b B : Nat} {es : TV} (h : Mv w b es) (hx : Below B w w') (hb : b < B) : Mv w' b es := h.kept (hx.block b hb)
theorem Bx.below {w w' : World} {b B : Nat} {us : List Value} (h : Bx w b us) (hx : Below B w w') (hb : b < B) : Bx w' b us := by
  obtain ⟨t, h⟩ := h
  exact ⟨t, by rw [hx.block b hb]; exact h⟩
end Go.Vg
end
section
open Go Go.Vg Go.RowKit Go.Proofs Go.Proofs.Ytbnckhfkkoncbaa
namespace Go.Proofs.Ytbnckhfkkoncbaa
open Go.Nm (iF kF infB sgn)

theorem within_ok (n m : Int) (w : World) (hm : 1 ≤ m) (hm2 : m ≤ 9223372036854775807) : Ret Try.prog 9 ⟨[.int .i64 n, .int .i64 m]⟩ w fun r w' => r = .int .i64 (n % m) ∧ w' = w := by
  have h1 := Int.tmod_eq_emod (a := n) (b := m)
  have h2 := Int.emod_nonneg n (b := m) (by omega)
  have h3 := Int.emod_lt_of_pos n (b := m) (by omega)
  obtain ⟨r, hr⟩ : ∃ r, r = n.tmod m := ⟨_, rfl⟩
  have hr1 : r < 0 → r + m = n % m := by
    intro h; rw [← hr] at h1; split at h1 <;> omega
  have hr2 : ¬ r < 0 → r = n % m := by
    intro h; rw [← hr] at h1; split at h1 <;> omega
  refine ret_of_G Try.func9 rfl Try.ntmps9 rfl ?_
  simp only [argEnv]
  refine rn ?_
  refine sRem hr.symm ?_
  refine rn ?_
  first | refine G.condD rfl (fun hc => ?_) (fun hc => ?_) | refine G.condN rfl (fun hc => ?_) (fun hc => ?_) | refine G.cond rfl (fun hc => ?_) (fun hc => ?_)
  · refine rn ?_
    have := hr1 hc
    refine sAd tb ?_
    refine rn ?_
    refine G.ret1 rfl rfl rfl rfl ?_
    exact ⟨by rw [this], rfl⟩
  · refine rn ?_
    refine G.ret1 rfl rfl rfl rfl ?_
    exact ⟨by rw [hr2 hc], rfl⟩
end Go.Proofs.Ytbnckhfkkoncbaa
end
