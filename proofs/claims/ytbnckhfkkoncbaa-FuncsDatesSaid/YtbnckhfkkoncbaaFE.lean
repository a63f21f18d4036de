/- Three fixed numbers sorted: walked. -/
import Derived.Test.YtbnckhfkkoncbaaFD
open Go Go.Vg Go.RowKit Go.Proofs Go.Proofs.Ytbnckhfkkoncbaa
namespace Go.Proofs.Ytbnckhfkkoncbaa
set_option linter.unusedSimpArgs false

abbrev CF : Value := .func (.func 50) #[] ⟨[]⟩
set_option maxHeartbeats 4000000 in
theorem ins_ok (a b c : Nat) (h1 : fcmpB .lss b a = some true) (h2 : fcmpB .lss c a = some true) (h3 : fcmpB .lss c b = some false) (h4 : fcmpB .gtr c b = some true) (h5 : fcmpB .neq c c = some false) (B : Nat) (v : Value) (w : World) (ho : FlO w B v [a, b, c]) (hB : B ≤ w.heap.size) :
    Ret Try.prog 103 ⟨[v, .int .i64 0, .int .i64 3, CF]⟩ w fun _ w' => FlO w' B v [b, c, a] ∧ Below B w w' ∧ B ≤ w'.heap.size := by
  refine ret_of_G Try.func103 rfl Try.ntmps103 rfl ?_
  simp only [argEnv]
  try (first | refine gl tb ?_ | refine gg tb ?_ | refine ll tb ?_ | refine lg tb ?_); repeat ((first | refine G.condT rfl ?_ | refine G.condF rfl ?_ | refine sFa tb ?_ | refine sLd tb ?_ | refine sLa tb ?_ | refine sLen tb ?_ | refine sFd tb ?_ | refine sBd tb ?_ | refine sBa tb ?_); try (first | refine gl tb ?_ | refine gg tb ?_ | refine ll tb ?_ | refine lg tb ?_))
  refine sAd tb (r := 1) ?_
  try (first | refine gl tb ?_ | refine gg tb ?_ | refine ll tb ?_ | refine lg tb ?_); repeat ((first | refine G.condT rfl ?_ | refine G.condF rfl ?_ | refine sFa tb ?_ | refine sLd tb ?_ | refine sLa tb ?_ | refine sLen tb ?_ | refine sFd tb ?_ | refine sBd tb ?_ | refine sBa tb ?_); try (first | refine gl tb ?_ | refine gg tb ?_ | refine ll tb ?_ | refine lg tb ?_))
  refine (G.loop (fun i : Nat => [(0, none, v), (1, none, .int .i64 0), (2, none, .int .i64 3), (3, none, CF), (8, none, .int .i64 i)]) (fun i W => Below B w W ∧ B ≤ W.heap.size ∧ ((i = 1 ∧ FlO W B v [a, b, c]) ∨ (i = 2 ∧ FlO W B v [b, a, c]) ∨ (i = 3 ∧ FlO W B v [b, c, a]))) (fun i => 3 - i) 1 (by repeat (first | exact Sub.nil _ | refine Sub.cons rfl ?_)) ⟨Below.refl _ _, hB, .inl ⟨rfl, ho⟩⟩ ?_)
  clear ho hB
  rintro i W ⟨hb, hBW, ⟨rfl, ho⟩ | ⟨rfl, ho⟩ | ⟨rfl, ho⟩⟩
  · try (first | refine gl tb ?_ | refine gg tb ?_ | refine ll tb ?_ | refine lg tb ?_); repeat ((first | refine G.condT rfl ?_ | refine G.condF rfl ?_ | refine sFa tb ?_ | refine sLd tb ?_ | refine sLa tb ?_ | refine sLen tb ?_ | refine sFd tb ?_ | refine sBd tb ?_ | refine sBa tb ?_); try (first | refine gl tb ?_ | refine gg tb ?_ | refine ll tb ?_ | refine lg tb ?_))
    refine (G.loop (fun j : Nat => [(0, none, v), (1, none, .int .i64 0), (2, none, .int .i64 3), (3, none, CF), (8, none, .int .i64 1), (9, none, .int .i64 j)]) (fun j W => Below B w W ∧ B ≤ W.heap.size ∧ ((j = 1 ∧ FlO W B v [a, b, c]) ∨ (j = 0 ∧ FlO W B v [b, a, c]))) (fun j => j) 1 (by repeat (first | exact Sub.nil _ | refine Sub.cons rfl ?_)) ⟨hb, hBW, .inl ⟨rfl, ho⟩⟩ ?_)
    clear ho hb hBW W
    rintro j W ⟨hb, hBW, ⟨rfl, ho⟩ | ⟨rfl, ho⟩⟩
    · try (first | refine gl tb ?_ | refine gg tb ?_ | refine ll tb ?_ | refine lg tb ?_); repeat ((first | refine G.condT rfl ?_ | refine G.condF rfl ?_ | refine sFa tb ?_ | refine sLd tb ?_ | refine sLa tb ?_ | refine sLen tb ?_ | refine sFd tb ?_ | refine sBd tb ?_ | refine sBa tb ?_); try (first | refine gl tb ?_ | refine gg tb ?_ | refine ll tb ?_ | refine lg tb ?_))
      refine G.regionM [(0, true), (1, true), (2, true), (3, true), (4, true), (5, true), (6, true), (7, true), (8, true), (9, true), (10, true), (11, true), (12, true), (13, true), (14, false), (15, true), (16, true)] (Ext W) (by kernel_rfl) (by kernel_rfl) rfl mixed (Ext.drew W) rfl ?_
      have hs := ho.sli
      have hg0 : ([a, b, c].map fC)[0]? = some (fC a) := rfl
      have hg1 : ([a, b, c].map fC)[1]? = some (fC b) := rfl
      have hg2 : ([a, b, c].map fC)[2]? = some (fC c) := rfl
      have hlen : ([a, b, c].map fC).length = 3 := rfl
      try (refine mm tb ?_); repeat ((first | refine dFa tb ?_ | refine dLd tb ?_ | refine dLa tb ?_ | refine dLen tb ?_ | refine dFd tb ?_ | refine dIa tb 1 ?_); try (refine mm tb ?_))
      refine dAd tb (r := 0) ?_
      try (refine mm tb ?_); repeat ((first | refine dFa tb ?_ | refine dLd tb ?_ | refine dLa tb ?_ | refine dLen tb ?_ | refine dFd tb ?_ | refine dIa tb 0 ?_); try (refine mm tb ?_))
      refine GM.eff (Step.callXC rfl (Op1.of rfl (by first | exact fun _ => rfl | exact fun h => h | exact fun h => bL h | exact fun h => bL (bL h) | exact fun h => bL (bL (bL h)))) rfl (by repeat (first | exact OpL.nil | refine OpL.cons (Op1.of rfl (by first | exact fun _ => rfl | exact fun h => h | exact fun h => bL h | exact fun h => bL (bL h) | exact fun h => bL (bL (bL h)))) ?_)) c50 rfl (fun _ => cmp_lt b a _ h1) ?_ (vs := [Fl b, Fl a]))
      intro w1 hx1
      have hx1 := (Ext.drew W).trans hx1
      refine ⟨hx1, ?_⟩
      try (refine mm tb ?_); repeat ((first | refine dFa tb ?_ | refine dLd tb ?_ | refine dLa tb ?_ | refine dLen tb ?_ | refine dFd tb ?_); try (refine mm tb ?_))
      refine GM.nil ?_
      have ho1 := ho.to hx1
      have hbx1 := hb.ext hx1 hBW
      try (first | refine gl tb ?_ | refine gg tb ?_ | refine ll tb ?_ | refine lg tb ?_); repeat ((first | refine G.condT rfl ?_ | refine G.condF rfl ?_ | refine sFa tb ?_ | refine sLd tb ?_ | refine sLa tb ?_ | refine sLen tb ?_ | refine sFd tb ?_ | refine sBd tb ?_ | refine sBa tb ?_); try (first | refine gl tb ?_ | refine gg tb ?_ | refine ll tb ?_ | refine lg tb ?_))
      refine G.regionG (fun _ => True) mixed trivial ?_
      have ho1 := ho1.to (Ext.drew w1)
      have hbx1 := hbx1.ext (Ext.drew w1) (Nat.le_trans hBW hx1.size)
      have hBz : B ≤ w1.drew.heap.size := Nat.le_trans hBW (Nat.le_trans hx1.size (Ext.drew w1).size)
      generalize w1.drew = w2 at ho1 hbx1 hBz ⊢
      have hs2 := ho1.sli
      refine GD.steps ([(0, true), (1, true), (2, true), (3, true), (4, true), (5, true), (6, true), (7, true), (8, true), (10, true), (11, true), (12, true)]) (by kernel_rfl) (by kernel_rfl) rfl ?_
      try (refine mm tb ?_); repeat ((first | refine dFa tb ?_ | refine dLd tb ?_ | refine dLa tb ?_ | refine dLen tb ?_ | refine dFd tb ?_); try (refine mm tb ?_))
      refine dAd tb (r := 0) ?_
      try (refine mm tb ?_); repeat ((first | refine dFa tb ?_ | refine dLd tb ?_ | refine dLa tb ?_ | refine dLen tb ?_ | refine dFd tb ?_); try (refine mm tb ?_))
      refine dAd tb (r := 0) ?_
      refine dIa tb 0 ?_
      try (refine mm tb ?_); repeat ((first | refine dFa tb ?_ | refine dLd tb ?_ | refine dLa tb ?_ | refine dLen tb ?_ | refine dFd tb ?_); try (refine mm tb ?_))
      refine dIa tb 1 ?_
      try (refine mm tb ?_); repeat ((first | refine dFa tb ?_ | refine dLd tb ?_ | refine dLa tb ?_ | refine dLen tb ?_ | refine dFd tb ?_); try (refine mm tb ?_))
      refine GM.nil ?_
      refine GD.join [0, 1, 2, 3, 4, 5, 6, 7, 8, 9, 10, 11, 12, 13] (fun _ : Unit => [(0, none, v), (1, none, .int .i64 0), (2, none, .int .i64 3), (3, none, CF), (8, none, .int .i64 1), (9, none, .int .i64 1), (37, none, v), (38, none, .int .i64 1), (39, none, v), (41, none, .int .i64 0), (46, none, Fl a), (50, none, Fl b)]) (fun _ w' => w' = w2) ?_ fun meet => ?_
      rotate_left
      · refine GD.two (9) (13) (by kernel_rfl) (by kernel_rfl) rfl rfl ?_ ?_
        · refine (Step.load1 tb rfl (Op1.of rfl (by first | exact fun _ => rfl | exact fun h => h | exact fun h => bL h | exact fun h => bL (bL h) | exact fun h => bL (bL (bL h)))) rfl rfl (fun _ => (Sli.elem hs2 hg0).c0 rfl) rfl ?_)
          refine ⟨trivial, ?_⟩
          refine GD.steps ([(13, false)]) (by kernel_rfl) (by kernel_rfl) rfl ?_
          refine GM.eff (Step.load1 tb rfl (Op1.of rfl (by first | exact fun _ => rfl | exact fun h => h | exact fun h => bL h | exact fun h => bL (bL h) | exact fun h => bL (bL (bL h)))) rfl rfl (fun _ => (Sli.elem hs2 hg1).c0 rfl) rfl ?_)
          refine ⟨trivial, ?_⟩
          refine GM.nil ?_
          exact meet () _ _ _ rfl rfl (by repeat (first | exact Sub.nil _ | refine Sub.cons rfl ?_)) rfl
        · refine (Step.load1 tb rfl (Op1.of rfl (by first | exact fun _ => rfl | exact fun h => h | exact fun h => bL h | exact fun h => bL (bL h) | exact fun h => bL (bL (bL h)))) rfl rfl (fun _ => (Sli.elem hs2 hg1).c0 rfl) rfl ?_)
          refine ⟨trivial, ?_⟩
          refine GD.steps ([(9, false)]) (by kernel_rfl) (by kernel_rfl) rfl ?_
          refine GM.eff (Step.load1 tb rfl (Op1.of rfl (by first | exact fun _ => rfl | exact fun h => h | exact fun h => bL h | exact fun h => bL (bL h) | exact fun h => bL (bL (bL h)))) rfl rfl (fun _ => (Sli.elem hs2 hg0).c0 rfl) rfl ?_)
          refine ⟨trivial, ?_⟩
          refine GM.nil ?_
          exact meet () _ _ _ rfl rfl (by repeat (first | exact Sub.nil _ | refine Sub.cons rfl ?_)) rfl
      rintro _ w3 hw3
      obtain rfl : w2 = w3 := hw3.symm
      refine GD.steps ([(14, true), (15, false), (16, true), (17, false)]) (by kernel_rfl) (by kernel_rfl) rfl ?_
      refine dIa tb 1 ?_
      refine GM.eff (Step.storeRow (j := 1) (vs := fC a) tb rfl (Op1.of rfl (by first | exact fun _ => rfl | exact fun h => h | exact fun h => bL h | exact fun h => bL (bL h) | exact fun h => bL (bL (bL h)))) (Op1.of rfl (by first | exact fun _ => rfl | exact fun h => h | exact fun h => bL h | exact fun h => bL (bL h) | exact fun h => bL (bL (bL h)))) rfl rfl rfl (f1 [a] _ (List.mem_cons_self ..)) ho1 (show (1 : Nat) < 3 by decide) ?_)
      intro w4 ho4 hg4
      have ho4 : FlO w4 B v [a, a, c] := ho4
      have hb4 := hg4.below _ hbx1
      refine ⟨trivial, ?_⟩
      refine dIa tb 0 ?_
      refine GM.eff (Step.storeRow (j := 0) (vs := fC b) tb rfl (Op1.of rfl (by first | exact fun _ => rfl | exact fun h => h | exact fun h => bL h | exact fun h => bL (bL h) | exact fun h => bL (bL (bL h)))) (Op1.of rfl (by first | exact fun _ => rfl | exact fun h => h | exact fun h => bL h | exact fun h => bL (bL h) | exact fun h => bL (bL (bL h)))) rfl rfl rfl (f1 [b] _ (List.mem_cons_self ..)) ho4 (show (0 : Nat) < 3 by decide) ?_)
      intro w5 ho5 hg5
      have ho5 : FlO w5 B v [b, a, c] := ho5
      have hb5 := hg5.below _ hb4
      have hBz5 : B ≤ w5.heap.size := Nat.le_trans hBz (Nat.le_trans hg4.size hg5.size)
      refine ⟨trivial, ?_⟩
      refine GM.nil ?_
      refine GD.done (by kernel_rfl) ?_
      try (first | refine gl tb ?_ | refine gg tb ?_ | refine ll tb ?_ | refine lg tb ?_); repeat ((first | refine G.condT rfl ?_ | refine G.condF rfl ?_ | refine sFa tb ?_ | refine sLd tb ?_ | refine sLa tb ?_ | refine sLen tb ?_ | refine sFd tb ?_ | refine sBd tb ?_ | refine sBa tb ?_); try (first | refine gl tb ?_ | refine gg tb ?_ | refine ll tb ?_ | refine lg tb ?_))
      refine sAd tb (r := 0) ?_
      try (first | refine gl tb ?_ | refine gg tb ?_ | refine ll tb ?_ | refine lg tb ?_); repeat ((first | refine G.condT rfl ?_ | refine G.condF rfl ?_ | refine sFa tb ?_ | refine sLd tb ?_ | refine sLa tb ?_ | refine sLen tb ?_ | refine sFd tb ?_ | refine sBd tb ?_ | refine sBa tb ?_); try (first | refine gl tb ?_ | refine gg tb ?_ | refine ll tb ?_ | refine lg tb ?_))
      exact G.lp (x := 1) 0 (by repeat (first | exact Sub.nil _ | refine Sub.cons rfl ?_)) ⟨hb5, hBz5, .inr ⟨rfl, ho5⟩⟩ (by decide)
    · try (first | refine gl tb ?_ | refine gg tb ?_ | refine ll tb ?_ | refine lg tb ?_); repeat ((first | refine G.condT rfl ?_ | refine G.condF rfl ?_ | refine sFa tb ?_ | refine sLd tb ?_ | refine sLa tb ?_ | refine sLen tb ?_ | refine sFd tb ?_ | refine sBd tb ?_ | refine sBa tb ?_); try (first | refine gl tb ?_ | refine gg tb ?_ | refine ll tb ?_ | refine lg tb ?_))
      refine G.regionM [(0, true), (1, true), (2, true), (3, true), (4, true), (5, true), (6, true), (7, true), (8, true), (9, true), (10, true), (11, true), (12, true), (13, true), (14, false), (15, true), (16, true)] (Ext W) (by kernel_rfl) (by kernel_rfl) rfl mixed (Ext.drew W) rfl ?_
      try (refine mm tb ?_); repeat ((first | refine dFa tb ?_ | refine dLd tb ?_ | refine dLa tb ?_ | refine dLen tb ?_ | refine dFd tb ?_); try (refine mm tb ?_))
      refine GM.read (fun w' hS => Step.off (v := .pointer none) rfl (of_decide_eq_true rfl) rfl ⟨rfl, rfl⟩) rfl rfl ?_
      refine GM.read (fun w' hS => Step.off (v := Fl 0) rfl (of_decide_eq_true rfl) rfl ⟨rfl, rfl⟩) rfl rfl ?_
      try (refine mm tb ?_); repeat ((first | refine dFa tb ?_ | refine dLd tb ?_ | refine dLa tb ?_ | refine dLen tb ?_ | refine dFd tb ?_); try (refine mm tb ?_))
      refine GM.read (fun w' hS => Step.off (v := .int .i64 0) rfl (of_decide_eq_true rfl) rfl ⟨rfl, rfl⟩) rfl rfl ?_
      refine GM.read (fun w' hS => Step.off (v := .pointer none) rfl (of_decide_eq_true rfl) rfl ⟨rfl, rfl⟩) rfl rfl ?_
      refine GM.read (fun w' hS => Step.off (v := Fl 0) rfl (of_decide_eq_true rfl) rfl ⟨rfl, rfl⟩) rfl rfl ?_
      refine GM.eff (Step.off (v := .int .i64 0) rfl (of_decide_eq_true rfl) rfl ⟨Ext.drew W, ?_⟩)
      try (refine mm tb ?_); repeat ((first | refine dFa tb ?_ | refine dLd tb ?_ | refine dLa tb ?_ | refine dLen tb ?_ | refine dFd tb ?_); try (refine mm tb ?_))
      refine GM.nil ?_
      have hbd := hb.ext (Ext.drew W) hBW
      have hBd : B ≤ W.drew.heap.size := Nat.le_trans hBW (Ext.drew W).size
      have hod := ho.to (Ext.drew W)
      try (first | refine gl tb ?_ | refine gg tb ?_ | refine ll tb ?_ | refine lg tb ?_); repeat ((first | refine G.condT rfl ?_ | refine G.condF rfl ?_ | refine sFa tb ?_ | refine sLd tb ?_ | refine sLa tb ?_ | refine sLen tb ?_ | refine sFd tb ?_ | refine sBd tb ?_ | refine sBa tb ?_); try (first | refine gl tb ?_ | refine gg tb ?_ | refine ll tb ?_ | refine lg tb ?_))
      refine sAd tb (r := 2) ?_
      try (first | refine gl tb ?_ | refine gg tb ?_ | refine ll tb ?_ | refine lg tb ?_); repeat ((first | refine G.condT rfl ?_ | refine G.condF rfl ?_ | refine sFa tb ?_ | refine sLd tb ?_ | refine sLa tb ?_ | refine sLen tb ?_ | refine sFd tb ?_ | refine sBd tb ?_ | refine sBa tb ?_); try (first | refine gl tb ?_ | refine gg tb ?_ | refine ll tb ?_ | refine lg tb ?_))
      exact G.lp (x := 1) 2 (by repeat (first | exact Sub.nil _ | refine Sub.cons rfl ?_)) ⟨hbd, hBd, .inr (.inl ⟨rfl, hod⟩)⟩ (by decide)
  · try (first | refine gl tb ?_ | refine gg tb ?_ | refine ll tb ?_ | refine lg tb ?_); repeat ((first | refine G.condT rfl ?_ | refine G.condF rfl ?_ | refine sFa tb ?_ | refine sLd tb ?_ | refine sLa tb ?_ | refine sLen tb ?_ | refine sFd tb ?_ | refine sBd tb ?_ | refine sBa tb ?_); try (first | refine gl tb ?_ | refine gg tb ?_ | refine ll tb ?_ | refine lg tb ?_))
    refine (G.loop (fun j : Nat => [(0, none, v), (1, none, .int .i64 0), (2, none, .int .i64 3), (3, none, CF), (8, none, .int .i64 2), (9, none, .int .i64 j)]) (fun j W => Below B w W ∧ B ≤ W.heap.size ∧ ((j = 2 ∧ FlO W B v [b, a, c]) ∨ (j = 1 ∧ FlO W B v [b, c, a]))) (fun j => j) 2 (by repeat (first | exact Sub.nil _ | refine Sub.cons rfl ?_)) ⟨hb, hBW, .inl ⟨rfl, ho⟩⟩ ?_)
    clear ho hb hBW W
    rintro j W ⟨hb, hBW, ⟨rfl, ho⟩ | ⟨rfl, ho⟩⟩
    · try (first | refine gl tb ?_ | refine gg tb ?_ | refine ll tb ?_ | refine lg tb ?_); repeat ((first | refine G.condT rfl ?_ | refine G.condF rfl ?_ | refine sFa tb ?_ | refine sLd tb ?_ | refine sLa tb ?_ | refine sLen tb ?_ | refine sFd tb ?_ | refine sBd tb ?_ | refine sBa tb ?_); try (first | refine gl tb ?_ | refine gg tb ?_ | refine ll tb ?_ | refine lg tb ?_))
      refine G.regionM [(0, true), (1, true), (2, true), (3, true), (4, true), (5, true), (6, true), (7, true), (8, true), (9, true), (10, true), (11, true), (12, true), (13, true), (14, false), (15, true), (16, true)] (Ext W) (by kernel_rfl) (by kernel_rfl) rfl mixed (Ext.drew W) rfl ?_
      have hs := ho.sli
      have hg0 : ([b, a, c].map fC)[0]? = some (fC b) := rfl
      have hg1 : ([b, a, c].map fC)[1]? = some (fC a) := rfl
      have hg2 : ([b, a, c].map fC)[2]? = some (fC c) := rfl
      have hlen : ([b, a, c].map fC).length = 3 := rfl
      try (refine mm tb ?_); repeat ((first | refine dFa tb ?_ | refine dLd tb ?_ | refine dLa tb ?_ | refine dLen tb ?_ | refine dFd tb ?_ | refine dIa tb 2 ?_); try (refine mm tb ?_))
      refine dAd tb (r := 1) ?_
      try (refine mm tb ?_); repeat ((first | refine dFa tb ?_ | refine dLd tb ?_ | refine dLa tb ?_ | refine dLen tb ?_ | refine dFd tb ?_ | refine dIa tb 1 ?_); try (refine mm tb ?_))
      refine GM.eff (Step.callXC rfl (Op1.of rfl (by first | exact fun _ => rfl | exact fun h => h | exact fun h => bL h | exact fun h => bL (bL h) | exact fun h => bL (bL (bL h)))) rfl (by repeat (first | exact OpL.nil | refine OpL.cons (Op1.of rfl (by first | exact fun _ => rfl | exact fun h => h | exact fun h => bL h | exact fun h => bL (bL h) | exact fun h => bL (bL (bL h)))) ?_)) c50 rfl (fun _ => cmp_lt c a _ h2) ?_ (vs := [Fl c, Fl a]))
      intro w1 hx1
      have hx1 := (Ext.drew W).trans hx1
      refine ⟨hx1, ?_⟩
      try (refine mm tb ?_); repeat ((first | refine dFa tb ?_ | refine dLd tb ?_ | refine dLa tb ?_ | refine dLen tb ?_ | refine dFd tb ?_); try (refine mm tb ?_))
      refine GM.nil ?_
      have ho1 := ho.to hx1
      have hbx1 := hb.ext hx1 hBW
      try (first | refine gl tb ?_ | refine gg tb ?_ | refine ll tb ?_ | refine lg tb ?_); repeat ((first | refine G.condT rfl ?_ | refine G.condF rfl ?_ | refine sFa tb ?_ | refine sLd tb ?_ | refine sLa tb ?_ | refine sLen tb ?_ | refine sFd tb ?_ | refine sBd tb ?_ | refine sBa tb ?_); try (first | refine gl tb ?_ | refine gg tb ?_ | refine ll tb ?_ | refine lg tb ?_))
      refine G.regionG (fun _ => True) mixed trivial ?_
      have ho1 := ho1.to (Ext.drew w1)
      have hbx1 := hbx1.ext (Ext.drew w1) (Nat.le_trans hBW hx1.size)
      have hBz : B ≤ w1.drew.heap.size := Nat.le_trans hBW (Nat.le_trans hx1.size (Ext.drew w1).size)
      generalize w1.drew = w2 at ho1 hbx1 hBz ⊢
      have hs2 := ho1.sli
      refine GD.steps ([(0, true), (1, true), (2, true), (3, true), (4, true), (5, true), (6, true), (7, true), (8, true), (10, true), (11, true), (12, true)]) (by kernel_rfl) (by kernel_rfl) rfl ?_
      try (refine mm tb ?_); repeat ((first | refine dFa tb ?_ | refine dLd tb ?_ | refine dLa tb ?_ | refine dLen tb ?_ | refine dFd tb ?_); try (refine mm tb ?_))
      refine dAd tb (r := 1) ?_
      try (refine mm tb ?_); repeat ((first | refine dFa tb ?_ | refine dLd tb ?_ | refine dLa tb ?_ | refine dLen tb ?_ | refine dFd tb ?_); try (refine mm tb ?_))
      refine dAd tb (r := 1) ?_
      refine dIa tb 1 ?_
      try (refine mm tb ?_); repeat ((first | refine dFa tb ?_ | refine dLd tb ?_ | refine dLa tb ?_ | refine dLen tb ?_ | refine dFd tb ?_); try (refine mm tb ?_))
      refine dIa tb 2 ?_
      try (refine mm tb ?_); repeat ((first | refine dFa tb ?_ | refine dLd tb ?_ | refine dLa tb ?_ | refine dLen tb ?_ | refine dFd tb ?_); try (refine mm tb ?_))
      refine GM.nil ?_
      refine GD.join [0, 1, 2, 3, 4, 5, 6, 7, 8, 9, 10, 11, 12, 13] (fun _ : Unit => [(0, none, v), (1, none, .int .i64 0), (2, none, .int .i64 3), (3, none, CF), (8, none, .int .i64 2), (9, none, .int .i64 2), (37, none, v), (38, none, .int .i64 2), (39, none, v), (41, none, .int .i64 1), (46, none, Fl a), (50, none, Fl c)]) (fun _ w' => w' = w2) ?_ fun meet => ?_
      rotate_left
      · refine GD.two (9) (13) (by kernel_rfl) (by kernel_rfl) rfl rfl ?_ ?_
        · refine (Step.load1 tb rfl (Op1.of rfl (by first | exact fun _ => rfl | exact fun h => h | exact fun h => bL h | exact fun h => bL (bL h) | exact fun h => bL (bL (bL h)))) rfl rfl (fun _ => (Sli.elem hs2 hg1).c0 rfl) rfl ?_)
          refine ⟨trivial, ?_⟩
          refine GD.steps ([(13, false)]) (by kernel_rfl) (by kernel_rfl) rfl ?_
          refine GM.eff (Step.load1 tb rfl (Op1.of rfl (by first | exact fun _ => rfl | exact fun h => h | exact fun h => bL h | exact fun h => bL (bL h) | exact fun h => bL (bL (bL h)))) rfl rfl (fun _ => (Sli.elem hs2 hg2).c0 rfl) rfl ?_)
          refine ⟨trivial, ?_⟩
          refine GM.nil ?_
          exact meet () _ _ _ rfl rfl (by repeat (first | exact Sub.nil _ | refine Sub.cons rfl ?_)) rfl
        · refine (Step.load1 tb rfl (Op1.of rfl (by first | exact fun _ => rfl | exact fun h => h | exact fun h => bL h | exact fun h => bL (bL h) | exact fun h => bL (bL (bL h)))) rfl rfl (fun _ => (Sli.elem hs2 hg2).c0 rfl) rfl ?_)
          refine ⟨trivial, ?_⟩
          refine GD.steps ([(9, false)]) (by kernel_rfl) (by kernel_rfl) rfl ?_
          refine GM.eff (Step.load1 tb rfl (Op1.of rfl (by first | exact fun _ => rfl | exact fun h => h | exact fun h => bL h | exact fun h => bL (bL h) | exact fun h => bL (bL (bL h)))) rfl rfl (fun _ => (Sli.elem hs2 hg1).c0 rfl) rfl ?_)
          refine ⟨trivial, ?_⟩
          refine GM.nil ?_
          exact meet () _ _ _ rfl rfl (by repeat (first | exact Sub.nil _ | refine Sub.cons rfl ?_)) rfl
      rintro _ w3 hw3
      obtain rfl : w2 = w3 := hw3.symm
      refine GD.steps ([(14, true), (15, false), (16, true), (17, false)]) (by kernel_rfl) (by kernel_rfl) rfl ?_
      refine dIa tb 2 ?_
      refine GM.eff (Step.storeRow (j := 2) (vs := fC a) tb rfl (Op1.of rfl (by first | exact fun _ => rfl | exact fun h => h | exact fun h => bL h | exact fun h => bL (bL h) | exact fun h => bL (bL (bL h)))) (Op1.of rfl (by first | exact fun _ => rfl | exact fun h => h | exact fun h => bL h | exact fun h => bL (bL h) | exact fun h => bL (bL (bL h)))) rfl rfl rfl (f1 [a] _ (List.mem_cons_self ..)) ho1 (show (2 : Nat) < 3 by decide) ?_)
      intro w4 ho4 hg4
      have ho4 : FlO w4 B v [b, a, a] := ho4
      have hb4 := hg4.below _ hbx1
      refine ⟨trivial, ?_⟩
      refine dIa tb 1 ?_
      refine GM.eff (Step.storeRow (j := 1) (vs := fC c) tb rfl (Op1.of rfl (by first | exact fun _ => rfl | exact fun h => h | exact fun h => bL h | exact fun h => bL (bL h) | exact fun h => bL (bL (bL h)))) (Op1.of rfl (by first | exact fun _ => rfl | exact fun h => h | exact fun h => bL h | exact fun h => bL (bL h) | exact fun h => bL (bL (bL h)))) rfl rfl rfl (f1 [c] _ (List.mem_cons_self ..)) ho4 (show (1 : Nat) < 3 by decide) ?_)
      intro w5 ho5 hg5
      have ho5 : FlO w5 B v [b, c, a] := ho5
      have hb5 := hg5.below _ hb4
      have hBz5 : B ≤ w5.heap.size := Nat.le_trans hBz (Nat.le_trans hg4.size hg5.size)
      refine ⟨trivial, ?_⟩
      refine GM.nil ?_
      refine GD.done (by kernel_rfl) ?_
      try (first | refine gl tb ?_ | refine gg tb ?_ | refine ll tb ?_ | refine lg tb ?_); repeat ((first | refine G.condT rfl ?_ | refine G.condF rfl ?_ | refine sFa tb ?_ | refine sLd tb ?_ | refine sLa tb ?_ | refine sLen tb ?_ | refine sFd tb ?_ | refine sBd tb ?_ | refine sBa tb ?_); try (first | refine gl tb ?_ | refine gg tb ?_ | refine ll tb ?_ | refine lg tb ?_))
      refine sAd tb (r := 1) ?_
      try (first | refine gl tb ?_ | refine gg tb ?_ | refine ll tb ?_ | refine lg tb ?_); repeat ((first | refine G.condT rfl ?_ | refine G.condF rfl ?_ | refine sFa tb ?_ | refine sLd tb ?_ | refine sLa tb ?_ | refine sLen tb ?_ | refine sFd tb ?_ | refine sBd tb ?_ | refine sBa tb ?_); try (first | refine gl tb ?_ | refine gg tb ?_ | refine ll tb ?_ | refine lg tb ?_))
      exact G.lp (x := 2) 1 (by repeat (first | exact Sub.nil _ | refine Sub.cons rfl ?_)) ⟨hb5, hBz5, .inr ⟨rfl, ho5⟩⟩ (by decide)
    · try (first | refine gl tb ?_ | refine gg tb ?_ | refine ll tb ?_ | refine lg tb ?_); repeat ((first | refine G.condT rfl ?_ | refine G.condF rfl ?_ | refine sFa tb ?_ | refine sLd tb ?_ | refine sLa tb ?_ | refine sLen tb ?_ | refine sFd tb ?_ | refine sBd tb ?_ | refine sBa tb ?_); try (first | refine gl tb ?_ | refine gg tb ?_ | refine ll tb ?_ | refine lg tb ?_))
      refine G.regionM [(0, true), (1, true), (2, true), (3, true), (4, true), (5, true), (6, true), (7, true), (8, true), (9, true), (10, true), (11, true), (12, true), (13, true), (14, false), (15, true), (16, true)] (Ext W) (by kernel_rfl) (by kernel_rfl) rfl mixed (Ext.drew W) rfl ?_
      have hs := ho.sli
      have hg0 : ([b, c, a].map fC)[0]? = some (fC b) := rfl
      have hg1 : ([b, c, a].map fC)[1]? = some (fC c) := rfl
      have hg2 : ([b, c, a].map fC)[2]? = some (fC a) := rfl
      have hlen : ([b, c, a].map fC).length = 3 := rfl
      try (refine mm tb ?_); repeat ((first | refine dFa tb ?_ | refine dLd tb ?_ | refine dLa tb ?_ | refine dLen tb ?_ | refine dFd tb ?_ | refine dIa tb 1 ?_); try (refine mm tb ?_))
      refine dAd tb (r := 0) ?_
      try (refine mm tb ?_); repeat ((first | refine dFa tb ?_ | refine dLd tb ?_ | refine dLa tb ?_ | refine dLen tb ?_ | refine dFd tb ?_ | refine dIa tb 0 ?_); try (refine mm tb ?_))
      refine GM.eff (Step.callXC rfl (Op1.of rfl (by first | exact fun _ => rfl | exact fun h => h | exact fun h => bL h | exact fun h => bL (bL h) | exact fun h => bL (bL (bL h)))) rfl (by repeat (first | exact OpL.nil | refine OpL.cons (Op1.of rfl (by first | exact fun _ => rfl | exact fun h => h | exact fun h => bL h | exact fun h => bL (bL h) | exact fun h => bL (bL (bL h)))) ?_)) c50 rfl (fun _ => cmp_gt c b _ h3 h4 h5) ?_ (vs := [Fl c, Fl b]))
      intro w1 hx1
      have hx1 := (Ext.drew W).trans hx1
      refine ⟨hx1, ?_⟩
      try (refine mm tb ?_); repeat ((first | refine dFa tb ?_ | refine dLd tb ?_ | refine dLa tb ?_ | refine dLen tb ?_ | refine dFd tb ?_); try (refine mm tb ?_))
      refine GM.nil ?_
      have ho1 := ho.to hx1
      have hbx1 := hb.ext hx1 hBW
      try (first | refine gl tb ?_ | refine gg tb ?_ | refine ll tb ?_ | refine lg tb ?_); repeat ((first | refine G.condT rfl ?_ | refine G.condF rfl ?_ | refine sFa tb ?_ | refine sLd tb ?_ | refine sLa tb ?_ | refine sLen tb ?_ | refine sFd tb ?_ | refine sBd tb ?_ | refine sBa tb ?_); try (first | refine gl tb ?_ | refine gg tb ?_ | refine ll tb ?_ | refine lg tb ?_))
      refine sAd tb (r := 3) ?_
      try (first | refine gl tb ?_ | refine gg tb ?_ | refine ll tb ?_ | refine lg tb ?_); repeat ((first | refine G.condT rfl ?_ | refine G.condF rfl ?_ | refine sFa tb ?_ | refine sLd tb ?_ | refine sLa tb ?_ | refine sLen tb ?_ | refine sFd tb ?_ | refine sBd tb ?_ | refine sBa tb ?_); try (first | refine gl tb ?_ | refine gg tb ?_ | refine ll tb ?_ | refine lg tb ?_))
      exact G.lp (x := 2) 3 (by repeat (first | exact Sub.nil _ | refine Sub.cons rfl ?_)) ⟨hbx1, Nat.le_trans hBW hx1.size, .inr (.inr ⟨rfl, ho1⟩)⟩ (by decide)
  · try (first | refine gl tb ?_ | refine gg tb ?_ | refine ll tb ?_ | refine lg tb ?_); repeat ((first | refine G.condT rfl ?_ | refine G.condF rfl ?_ | refine sFa tb ?_ | refine sLd tb ?_ | refine sLa tb ?_ | refine sLen tb ?_ | refine sFd tb ?_ | refine sBd tb ?_ | refine sBa tb ?_); try (first | refine gl tb ?_ | refine gg tb ?_ | refine ll tb ?_ | refine lg tb ?_))
    refine G.end0 rfl rfl rfl ?_
    exact ⟨ho, hb, hBW⟩
end Go.Proofs.Ytbnckhfkkoncbaa
