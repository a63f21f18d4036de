/- slices.Insert of one label, walked. -/
import Derived.Test.YtfffblopkaandaaDoorLPk
import Derived.Test.YtfffblopkaandaaDoorV24
open Go Go.Vg Go.RowKit Go.Proofs Go.Proofs.YtfffblopkaandaaDoor
namespace Go.Proofs.YtfffblopkaandaaDoor
set_option linter.unusedSimpArgs false

theorem layA {α : Type} (xs zs : List α) (x : α) (i : Nat) (hi : i < xs.length) (hz : zs.length = xs.length + 1 - i) :
    lay (lay (xs.take i ++ zs) i ([x].take 1)) (i + 1) ((xs.drop i).take (xs.length - i)) = xs.take i ++ x :: xs.drop i := by
  have h1 : (xs.take i).length = i := by rw [List.length_take]; omega
  have h2 : ((xs.drop i).take (xs.length - i)) = xs.drop i := List.take_of_length_le (by simp)
  have e1 : lay (xs.take i ++ zs) i ([x].take 1) = (xs.take i ++ [x]) ++ zs.drop 1 := by
    simp only [lay, List.take_left' h1, List.take_succ_cons, List.take_zero, List.length_cons, List.length_nil]
    rw [List.drop_append, List.drop_of_length_le (l := xs.take i) (by omega), List.nil_append, h1, show i + (0 + 1) - i = 1 by omega]
  have h3 : (xs.take i ++ [x]).length = i + 1 := by rw [List.length_append, h1]; rfl
  rw [e1, h2]
  simp only [lay, List.take_left' h3]
  rw [List.drop_of_length_le (l := xs.take i ++ [x] ++ zs.drop 1) (by simp; omega), List.append_nil, List.append_assoc]
  rfl
theorem layB {α : Type} (xs : List α) (x y : α) (i : Nat) (hi : i < xs.length) :
    lay (lay (xs ++ [y]) (i + 1) (((xs ++ [y]).drop i).take (xs.length - i))) i ([x].take 1) = xs.take i ++ x :: xs.drop i := by
  have e1 : ((xs ++ [y]).drop i).take (xs.length - i) = xs.drop i := by
    rw [List.drop_append_of_le_length (by omega), List.take_left' (by rw [List.length_drop])]
  have e2 : lay (xs ++ [y]) (i + 1) (xs.drop i) = xs.take (i + 1) ++ xs.drop i := by
    simp only [lay]
    rw [List.take_append_of_le_length (by omega), List.drop_of_length_le (l := xs ++ [y]) (by simp; omega), List.append_nil]
  rw [e1, e2]
  have h1 : (xs.take i).length = i := by rw [List.length_take]; omega
  have e3 : xs.take (i + 1) ++ xs.drop i = xs.take i ++ (xs[i] :: xs.drop i) := by
    rw [List.take_succ_eq_append_getElem hi, List.append_assoc]; rfl
  rw [e3]
  simp only [lay, List.take_left' h1, List.take_succ_cons, List.take_zero, List.length_cons, List.length_nil]
  rw [List.drop_append, List.drop_of_length_le (l := xs.take i) (by omega), List.nil_append, h1, show i + (0 + 1) - i = 1 by omega, List.append_assoc]
  rfl

theorem insert_ok (s u : Value) (xs : List (List Value)) (x : List Value) (i B B' : Nat) (w : World) (hs : Owns w B s 28 2 xs) (hu : Owns w B' u 28 2 [x]) (hne : ∀ b, some b = u.ownBlock → some b ≠ s.ownBlock)
    (hi : i ≤ xs.length) (hn : xs.length ≤ 1000) (hB : B ≤ w.heap.size) (h1 : ∀ y ∈ xs, ∀ c ∈ y, c.oneCell' = true) (h1x : ∀ y ∈ [x], ∀ c ∈ y, c.oneCell' = true) :
    Ret Tryd.prog 77 ⟨[s, .int .i64 i, u]⟩ w fun r w' => Owns w' B r 28 2 (xs.take i ++ x :: xs.drop i) ∧ Grew B s w w' := by
  refine ret_of_G Tryd.func77 rfl Tryd.ntmps77 rfl ?_
  simp only [argEnv]
  try (first | refine gl tb ?_ | refine gg tb ?_ | refine ll tb ?_ | refine lg tb ?_); repeat ((first | refine G.condT rfl ?_ | refine G.condF rfl ?_ | refine sFa tb ?_ | refine sLd tb ?_ | refine sLa tb ?_ | refine sLen tb ?_ | refine sFd tb ?_ | refine sBd tb ?_ | refine sBa tb ?_); try (first | refine gl tb ?_ | refine gg tb ?_ | refine ll tb ?_ | refine lg tb ?_))
  refine GL.cons (Step.sliceVl tb i rfl (Op1.of rfl (by first | exact fun _ => rfl | exact fun h => h | exact fun h => bL h | exact fun h => bL (bL h) | exact fun h => bL (bL (bL h)))) (Op1.of rfl (by first | exact fun _ => rfl | exact fun h => h | exact fun h => bL h | exact fun h => bL (bL h) | exact fun h => bL (bL (bL h)))) rfl rfl (fun _ => ⟨_, hs.sli⟩) (fun _ => ⟨rfl, hi⟩) rfl ?_)
  try (first | refine gl tb ?_ | refine gg tb ?_ | refine ll tb ?_ | refine lg tb ?_); repeat ((first | refine G.condT rfl ?_ | refine G.condF rfl ?_ | refine sFa tb ?_ | refine sLd tb ?_ | refine sLa tb ?_ | refine sLen tb ?_ | refine sFd tb ?_ | refine sBd tb ?_ | refine sBa tb ?_); try (first | refine gl tb ?_ | refine gg tb ?_ | refine ll tb ?_ | refine lg tb ?_))
  rw [show ((([x] : List (List Value)).length : Nat) : Int) = 1 from rfl]
  try (first | refine gl tb ?_ | refine gg tb ?_ | refine ll tb ?_ | refine lg tb ?_); repeat ((first | refine G.condT rfl ?_ | refine G.condF rfl ?_ | refine sFa tb ?_ | refine sLd tb ?_ | refine sLa tb ?_ | refine sLen tb ?_ | refine sFd tb ?_ | refine sBd tb ?_ | refine sBa tb ?_); try (first | refine gl tb ?_ | refine gg tb ?_ | refine ll tb ?_ | refine lg tb ?_))
  first | refine G.condD rfl (fun hc => ?_) (fun hc => ?_) | refine G.condN rfl (fun hc => ?_) (fun hc => ?_) | refine G.cond rfl (fun hc => ?_) (fun hc => ?_)
  · have hin : i = xs.length := by omega
    try (first | refine gl tb ?_ | refine gg tb ?_ | refine ll tb ?_ | refine lg tb ?_); repeat ((first | refine G.condT rfl ?_ | refine G.condF rfl ?_ | refine sFa tb ?_ | refine sLd tb ?_ | refine sLa tb ?_ | refine sLen tb ?_ | refine sFd tb ?_ | refine sBd tb ?_ | refine sBa tb ?_); try (first | refine gl tb ?_ | refine gg tb ?_ | refine ll tb ?_ | refine lg tb ?_))
    refine sApp tb hs hu.sli ?_ (h1 := h1x)
    intro v1 w1 ho1 hg1
    try (first | refine gl tb ?_ | refine gg tb ?_ | refine ll tb ?_ | refine lg tb ?_); repeat ((first | refine G.condT rfl ?_ | refine G.condF rfl ?_ | refine sFa tb ?_ | refine sLd tb ?_ | refine sLa tb ?_ | refine sLen tb ?_ | refine sFd tb ?_ | refine sBd tb ?_ | refine sBa tb ?_); try (first | refine gl tb ?_ | refine gg tb ?_ | refine ll tb ?_ | refine lg tb ?_))
    refine G.ret1 rfl rfl rfl rfl ?_
    refine ⟨?_, hg1⟩
    rw [hin, List.take_length, List.drop_length]; exact ho1
  · have hlt : i < xs.length := by omega
    obtain ⟨gb, cap, cur, rfl, hBg, hgb, hcap, hcm, -, -⟩ := hs.shape (by omega)
    unfold maxLen at hcm
    try (first | refine gl tb ?_ | refine gg tb ?_ | refine ll tb ?_ | refine lg tb ?_); repeat ((first | refine G.condT rfl ?_ | refine G.condF rfl ?_ | refine sFa tb ?_ | refine sLd tb ?_ | refine sLa tb ?_ | refine sLen tb ?_ | refine sFd tb ?_ | refine sBd tb ?_ | refine sBa tb ?_); try (first | refine gl tb ?_ | refine gg tb ?_ | refine ll tb ?_ | refine lg tb ?_))
    refine sAd tb ?_
    try (first | refine gl tb ?_ | refine gg tb ?_ | refine ll tb ?_ | refine lg tb ?_); repeat ((first | refine G.condT rfl ?_ | refine G.condF rfl ?_ | refine sFa tb ?_ | refine sLd tb ?_ | refine sLa tb ?_ | refine sLen tb ?_ | refine sFd tb ?_ | refine sBd tb ?_ | refine sBa tb ?_); try (first | refine gl tb ?_ | refine gg tb ?_ | refine ll tb ?_ | refine lg tb ?_))
    refine GL.cons (Step.capV tb rfl (Op1.of rfl (by first | exact fun _ => rfl | exact fun h => h | exact fun h => bL h | exact fun h => bL (bL h) | exact fun h => bL (bL (bL h)))) rfl rfl ?_)
    try (first | refine gl tb ?_ | refine gg tb ?_ | refine ll tb ?_ | refine lg tb ?_); repeat ((first | refine G.condT rfl ?_ | refine G.condF rfl ?_ | refine sFa tb ?_ | refine sLd tb ?_ | refine sLa tb ?_ | refine sLen tb ?_ | refine sFd tb ?_ | refine sBd tb ?_ | refine sBa tb ?_); try (first | refine gl tb ?_ | refine gg tb ?_ | refine ll tb ?_ | refine lg tb ?_))
    first | refine G.condD rfl (fun hc => ?_) (fun hc => ?_) | refine G.condN rfl (fun hc => ?_) (fun hc => ?_) | refine G.cond rfl (fun hc => ?_) (fun hc => ?_)
    · have hroom : cap < xs.length + 1 := by omega
      try (first | refine gl tb ?_ | refine gg tb ?_ | refine ll tb ?_ | refine lg tb ?_); repeat ((first | refine G.condT rfl ?_ | refine G.condF rfl ?_ | refine sFa tb ?_ | refine sLd tb ?_ | refine sLa tb ?_ | refine sLen tb ?_ | refine sFd tb ?_ | refine sBd tb ?_ | refine sBa tb ?_); try (first | refine gl tb ?_ | refine gg tb ?_ | refine ll tb ?_ | refine lg tb ?_))
      refine GL.cons (Step.sliceVh tb i rfl (Op1.of rfl (by first | exact fun _ => rfl | exact fun h => h | exact fun h => bL h | exact fun h => bL (bL h) | exact fun h => bL (bL (bL h)))) (Op1.of rfl (by first | exact fun _ => rfl | exact fun h => h | exact fun h => bL h | exact fun h => bL (bL h) | exact fun h => bL (bL (bL h)))) rfl rfl (fun _ => ⟨_, hs.sli⟩) (fun _ => ⟨rfl, hi⟩) rfl ?_)
      try (first | refine gl tb ?_ | refine gg tb ?_ | refine ll tb ?_ | refine lg tb ?_); repeat ((first | refine G.condT rfl ?_ | refine G.condF rfl ?_ | refine sFa tb ?_ | refine sLd tb ?_ | refine sLa tb ?_ | refine sLen tb ?_ | refine sFd tb ?_ | refine sBd tb ?_ | refine sBa tb ?_); try (first | refine gl tb ?_ | refine gg tb ?_ | refine ll tb ?_ | refine lg tb ?_))
      refine sAd tb ?_
      try (first | refine gl tb ?_ | refine gg tb ?_ | refine ll tb ?_ | refine lg tb ?_); repeat ((first | refine G.condT rfl ?_ | refine G.condF rfl ?_ | refine sFa tb ?_ | refine sLd tb ?_ | refine sLa tb ?_ | refine sLen tb ?_ | refine sFd tb ?_ | refine sBd tb ?_ | refine sBa tb ?_); try (first | refine gl tb ?_ | refine gg tb ?_ | refine ll tb ?_ | refine lg tb ?_))
      refine sAr (r := ((xs.length + 1 - i : Nat) : Int)) ?_ (hp := (wrap_i64 (by omega) (by omega)).trans (by omega))
      refine GL.cons (Step.appendZ tb rfl (Op1.of rfl (by first | exact fun _ => rfl | exact fun h => h | exact fun h => bL h | exact fun h => bL (bL h) | exact fun h => bL (bL (bL h)))) (Op1.of rfl (by first | exact fun _ => rfl | exact fun h => h | exact fun h => bL h | exact fun h => bL (bL h) | exact fun h => bL (bL (bL h)))) rfl rfl rfl rfl rfl hs hi (by omega) (by omega) (by omega) (by omega) rfl ?_)
      intro v1 w1 zs hzl ho1 hx1
      try (first | refine gl tb ?_ | refine gg tb ?_ | refine ll tb ?_ | refine lg tb ?_); repeat ((first | refine G.condT rfl ?_ | refine G.condF rfl ?_ | refine sFa tb ?_ | refine sLd tb ?_ | refine sLa tb ?_ | refine sLen tb ?_ | refine sFd tb ?_ | refine sBd tb ?_ | refine sBa tb ?_); try (first | refine gl tb ?_ | refine gg tb ?_ | refine ll tb ?_ | refine lg tb ?_))
      have hl1 : (xs.take i ++ zs).length = xs.length + 1 := by rw [List.length_append, List.length_take, hzl]; omega
      refine GL.cons (Step.sliceVl tb i rfl (Op1.of rfl (by first | exact fun _ => rfl | exact fun h => h | exact fun h => bL h | exact fun h => bL (bL h) | exact fun h => bL (bL (bL h)))) (Op1.of rfl (by first | exact fun _ => rfl | exact fun h => h | exact fun h => bL h | exact fun h => bL (bL h) | exact fun h => bL (bL (bL h)))) rfl rfl (fun _ => ⟨_, ho1.sli⟩) (fun _ => ⟨rfl, by omega⟩) rfl ?_)
      try (first | refine gl tb ?_ | refine gg tb ?_ | refine ll tb ?_ | refine lg tb ?_); repeat ((first | refine G.condT rfl ?_ | refine G.condF rfl ?_ | refine sFa tb ?_ | refine sLd tb ?_ | refine sLa tb ?_ | refine sLen tb ?_ | refine sFd tb ?_ | refine sBd tb ?_ | refine sBa tb ?_); try (first | refine gl tb ?_ | refine gg tb ?_ | refine ll tb ?_ | refine lg tb ?_))
      refine GL.cons (Step.copyO tb rfl (Op1.of rfl (by first | exact fun _ => rfl | exact fun h => h | exact fun h => bL h | exact fun h => bL (bL h) | exact fun h => bL (bL (bL h)))) (Op1.of rfl (by first | exact fun _ => rfl | exact fun h => h | exact fun h => bL h | exact fun h => bL (bL h) | exact fun h => bL (bL (bL h)))) rfl rfl rfl ho1 (hu.to hx1).sli h1x (by omega) (m := 1) (by rw [hl1]; simp only [List.length_cons, List.length_nil]; omega) (by simp) rfl ?_)
      intro w2 ho2 hg2
      have hx2 : Ext w w2 := hg2.below _ hx1
      have hl2 : (lay (xs.take i ++ zs) i ([x].take 1)).length = xs.length + 1 := by rw [lay_len (by simp; omega)]; exact hl1
      try (first | refine gl tb ?_ | refine gg tb ?_ | refine ll tb ?_ | refine lg tb ?_); repeat ((first | refine G.condT rfl ?_ | refine G.condF rfl ?_ | refine sFa tb ?_ | refine sLd tb ?_ | refine sLa tb ?_ | refine sLen tb ?_ | refine sFd tb ?_ | refine sBd tb ?_ | refine sBa tb ?_); try (first | refine gl tb ?_ | refine gg tb ?_ | refine ll tb ?_ | refine lg tb ?_))
      refine G.regionM [(0, true), (1, true), (2, true), (3, true), (4, true), (5, true), (6, true), (7, true), (8, false)] ((fun _ => True)) (by kernel_rfl) (by kernel_rfl) rfl mixed (trivial) rfl ?_
      try (refine mm tb ?_); repeat ((first | refine dFa tb ?_ | refine dLd tb ?_ | refine dLa tb ?_ | refine dLen tb ?_ | refine dFd tb ?_); try (refine mm tb ?_))
      refine dAd tb ?_
      try (refine mm tb ?_); repeat ((first | refine dFa tb ?_ | refine dLd tb ?_ | refine dLa tb ?_ | refine dLen tb ?_ | refine dFd tb ?_); try (refine mm tb ?_))
      refine GM.read (fun w' hS => Step.sliceVl tb (i + 1) rfl (Op1.of rfl (by first | exact fun _ => rfl | exact fun h => h | exact fun h => bL h | exact fun h => bL (bL h) | exact fun h => bL (bL (bL h)))) (Op1.of rfl (by first | exact fun _ => rfl | exact fun h => h | exact fun h => bL h | exact fun h => bL (bL h) | exact fun h => bL (bL (bL h)))) rfl rfl (fun _ => ⟨_, ho2.sli⟩) (fun _ => ⟨by omega, by omega⟩) rfl ⟨rfl, rfl⟩) rfl rfl ?_
      try (refine mm tb ?_); repeat ((first | refine dFa tb ?_ | refine dLd tb ?_ | refine dLa tb ?_ | refine dLen tb ?_ | refine dFd tb ?_); try (refine mm tb ?_))
      refine GM.read (fun w' hS => Step.sliceVl tb i rfl (Op1.of rfl (by first | exact fun _ => rfl | exact fun h => h | exact fun h => bL h | exact fun h => bL (bL h) | exact fun h => bL (bL (bL h)))) (Op1.of rfl (by first | exact fun _ => rfl | exact fun h => h | exact fun h => bL h | exact fun h => bL (bL h) | exact fun h => bL (bL (bL h)))) rfl rfl (fun _ => ⟨_, hs.sli⟩) (fun _ => ⟨rfl, hi⟩) rfl ⟨rfl, rfl⟩) rfl rfl ?_
      have hx3 : Ext w w2.drew := hx2.drew'
      have hsub := Sli.sub (hs.to hx3).sli hi (Nat.le_refl _)
      have hsl : ((xs.drop i).take (xs.length - i)).length = xs.length - i := by rw [List.length_take, List.length_drop]; omega
      refine GM.eff (Step.copyO tb rfl (Op1.of rfl (by first | exact fun _ => rfl | exact fun h => h | exact fun h => bL h | exact fun h => bL (bL h) | exact fun h => bL (bL (bL h)))) (Op1.of rfl (by first | exact fun _ => rfl | exact fun h => h | exact fun h => bL h | exact fun h => bL (bL h) | exact fun h => bL (bL (bL h)))) rfl rfl rfl (ho2.to (Ext.drew w2)) hsub (fun y hy => h1 y (List.mem_of_mem_drop (List.mem_of_mem_take (List.mem_of_mem_take hy)))) (by omega) (m := xs.length - i) (by rw [hl2, hsl]; omega) (by omega) rfl ?_)
      intro w4 ho4 hg4
      refine ⟨trivial, ?_⟩
      refine GM.nil ?_
      try (first | refine gl tb ?_ | refine gg tb ?_ | refine ll tb ?_ | refine lg tb ?_); repeat ((first | refine G.condT rfl ?_ | refine G.condF rfl ?_ | refine sFa tb ?_ | refine sLd tb ?_ | refine sLa tb ?_ | refine sLen tb ?_ | refine sFd tb ?_ | refine sBd tb ?_ | refine sBa tb ?_); try (first | refine gl tb ?_ | refine gg tb ?_ | refine ll tb ?_ | refine lg tb ?_))
      refine G.ret1 rfl rfl rfl rfl ?_
      rw [List.take_of_length_le (l := (xs.drop i).take (xs.length - i)) (by omega), layA xs zs x i hlt hzl] at ho4
      exact ⟨ho4.mono hB, Grew.ofExt (hg4.below _ hx3) hB⟩
    · have hroom : xs.length < cap := by omega
      obtain ⟨y, ho1⟩ := hs.up hroom (by omega)
      have hl1 : (xs ++ [y]).length = xs.length + 1 := by simp
      try (first | refine gl tb ?_ | refine gg tb ?_ | refine ll tb ?_ | refine lg tb ?_); repeat ((first | refine G.condT rfl ?_ | refine G.condF rfl ?_ | refine sFa tb ?_ | refine sLd tb ?_ | refine sLa tb ?_ | refine sLen tb ?_ | refine sFd tb ?_ | refine sBd tb ?_ | refine sBa tb ?_); try (first | refine gl tb ?_ | refine gg tb ?_ | refine ll tb ?_ | refine lg tb ?_))
      refine sAd tb ?_
      try (first | refine gl tb ?_ | refine gg tb ?_ | refine ll tb ?_ | refine lg tb ?_); repeat ((first | refine G.condT rfl ?_ | refine G.condF rfl ?_ | refine sFa tb ?_ | refine sLd tb ?_ | refine sLa tb ?_ | refine sLen tb ?_ | refine sFd tb ?_ | refine sBd tb ?_ | refine sBa tb ?_); try (first | refine gl tb ?_ | refine gg tb ?_ | refine ll tb ?_ | refine lg tb ?_))
      refine GL.cons (Step.sliceCap tb (b := xs.length + 1) rfl (Op1.of rfl (by first | exact fun _ => rfl | exact fun h => h | exact fun h => bL h | exact fun h => bL (bL h) | exact fun h => bL (bL (bL h)))) (Op1.of rfl (by first | exact fun _ => rfl | exact fun h => h | exact fun h => bL h | exact fun h => bL (bL h) | exact fun h => bL (bL (bL h)))) rfl rfl (fun _ => ⟨by omega, by omega⟩) rfl ?_)
      try (first | refine gl tb ?_ | refine gg tb ?_ | refine ll tb ?_ | refine lg tb ?_); repeat ((first | refine G.condT rfl ?_ | refine G.condF rfl ?_ | refine sFa tb ?_ | refine sLd tb ?_ | refine sLa tb ?_ | refine sLen tb ?_ | refine sFd tb ?_ | refine sBd tb ?_ | refine sBa tb ?_); try (first | refine gl tb ?_ | refine gg tb ?_ | refine ll tb ?_ | refine lg tb ?_))
      refine sAd tb ?_
      try (first | refine gl tb ?_ | refine gg tb ?_ | refine ll tb ?_ | refine lg tb ?_); repeat ((first | refine G.condT rfl ?_ | refine G.condF rfl ?_ | refine sFa tb ?_ | refine sLd tb ?_ | refine sLa tb ?_ | refine sLen tb ?_ | refine sFd tb ?_ | refine sBd tb ?_ | refine sBa tb ?_); try (first | refine gl tb ?_ | refine gg tb ?_ | refine ll tb ?_ | refine lg tb ?_))
      refine GL.cons (Step.sliceVl tb (i + 1) rfl (Op1.of rfl (by first | exact fun _ => rfl | exact fun h => h | exact fun h => bL h | exact fun h => bL (bL h) | exact fun h => bL (bL (bL h)))) (Op1.of rfl (by first | exact fun _ => rfl | exact fun h => h | exact fun h => bL h | exact fun h => bL (bL h) | exact fun h => bL (bL (bL h)))) rfl rfl (fun _ => ⟨_, ho1.sli⟩) (fun _ => ⟨by omega, by omega⟩) rfl ?_)
      try (first | refine gl tb ?_ | refine gg tb ?_ | refine ll tb ?_ | refine lg tb ?_); repeat ((first | refine G.condT rfl ?_ | refine G.condF rfl ?_ | refine sFa tb ?_ | refine sLd tb ?_ | refine sLa tb ?_ | refine sLen tb ?_ | refine sFd tb ?_ | refine sBd tb ?_ | refine sBa tb ?_); try (first | refine gl tb ?_ | refine gg tb ?_ | refine ll tb ?_ | refine lg tb ?_))
      refine GL.cons (Step.callV rfl rfl rfl rfl (r := .bool false) ?_ ?_)
      · rw [run_callFunc_extern Tryd.func88 (by kernel_rfl) (by kernel_rfl) (by kernel_rfl) (e := Extern.SlicesOverlaps.overlaps #[22, 22] #[4]) (by kernel_rfl),
          overlaps_no tb rfl rfl (by decide) hu ho1 (by simp) (fun b hb => hne b hb) (by omega)]
        rfl
      try (first | refine gl tb ?_ | refine gg tb ?_ | refine ll tb ?_ | refine lg tb ?_); repeat ((first | refine G.condT rfl ?_ | refine G.condF rfl ?_ | refine sFa tb ?_ | refine sLd tb ?_ | refine sLa tb ?_ | refine sLen tb ?_ | refine sFd tb ?_ | refine sBd tb ?_ | refine sBa tb ?_); try (first | refine gl tb ?_ | refine gg tb ?_ | refine ll tb ?_ | refine lg tb ?_))
      refine G.regionM [(0, true), (1, true), (2, true), (3, true), (4, true), (5, true), (6, true), (7, true), (8, false)] ((fun _ => True)) (by kernel_rfl) (by kernel_rfl) rfl mixed (trivial) rfl ?_
      try (refine mm tb ?_); repeat ((first | refine dFa tb ?_ | refine dLd tb ?_ | refine dLa tb ?_ | refine dLen tb ?_ | refine dFd tb ?_); try (refine mm tb ?_))
      refine dAd tb ?_
      try (refine mm tb ?_); repeat ((first | refine dFa tb ?_ | refine dLd tb ?_ | refine dLa tb ?_ | refine dLen tb ?_ | refine dFd tb ?_); try (refine mm tb ?_))
      refine GM.read (fun w' hS => Step.sliceVl tb (i + 1) rfl (Op1.of rfl (by first | exact fun _ => rfl | exact fun h => h | exact fun h => bL h | exact fun h => bL (bL h) | exact fun h => bL (bL (bL h)))) (Op1.of rfl (by first | exact fun _ => rfl | exact fun h => h | exact fun h => bL h | exact fun h => bL (bL h) | exact fun h => bL (bL (bL h)))) rfl rfl (fun _ => ⟨_, ho1.sli⟩) (fun _ => ⟨by omega, by omega⟩) rfl ⟨rfl, rfl⟩) rfl rfl ?_
      try (refine mm tb ?_); repeat ((first | refine dFa tb ?_ | refine dLd tb ?_ | refine dLa tb ?_ | refine dLen tb ?_ | refine dFd tb ?_); try (refine mm tb ?_))
      refine GM.read (fun w' hS => Step.sliceVl tb i rfl (Op1.of rfl (by first | exact fun _ => rfl | exact fun h => h | exact fun h => bL h | exact fun h => bL (bL h) | exact fun h => bL (bL (bL h)))) (Op1.of rfl (by first | exact fun _ => rfl | exact fun h => h | exact fun h => bL h | exact fun h => bL (bL h) | exact fun h => bL (bL (bL h)))) rfl rfl (fun _ => ⟨_, ho1.sli⟩) (fun _ => ⟨rfl, by omega⟩) rfl ⟨rfl, rfl⟩) rfl rfl ?_
      have ho2 := ho1.to (Ext.drew w)
      have hu2 := hu.to (Ext.drew w)
      have hsub := Sli.sub ho2.sli (l := i) (by omega) (Nat.le_refl _)
      have hsl : (((xs ++ [y]).drop i).take ((xs ++ [y]).length - i)).length = xs.length + 1 - i := by rw [List.length_take, List.length_drop]; omega
      have e1 : (((xs ++ [y]).drop i).take ((xs ++ [y]).length - i)).take (xs.length - i) = ((xs ++ [y]).drop i).take (xs.length - i) := by rw [List.take_take, Nat.min_eq_left (by omega)]
      have e2 : ((xs ++ [y]).drop i).take (xs.length - i) = xs.drop i := by
        rw [List.drop_append_of_le_length (by omega), List.take_left' (by rw [List.length_drop])]
      refine GM.eff (Step.copyO tb rfl (Op1.of rfl (by first | exact fun _ => rfl | exact fun h => h | exact fun h => bL h | exact fun h => bL (bL h) | exact fun h => bL (bL (bL h)))) (Op1.of rfl (by first | exact fun _ => rfl | exact fun h => h | exact fun h => bL h | exact fun h => bL (bL h) | exact fun h => bL (bL (bL h)))) rfl rfl rfl ho2 hsub (fun z hz => h1 z (by rw [e1, e2] at hz; exact List.mem_of_mem_drop hz)) (by omega) (m := xs.length - i) (by rw [hsl, hl1]; omega) (by omega) rfl ?_)
      intro w4 ho4 hg4
      refine ⟨trivial, ?_⟩
      refine GM.nil ?_
      rw [e1] at ho4
      have hl4 : (lay (xs ++ [y]) (i + 1) (((xs ++ [y]).drop i).take (xs.length - i))).length = xs.length + 1 := by rw [e2, lay_len (by rw [hl1, List.length_drop]; omega)]; exact hl1
      have hu4 := hu2.grew hg4 hne
      try (first | refine gl tb ?_ | refine gg tb ?_ | refine ll tb ?_ | refine lg tb ?_); repeat ((first | refine G.condT rfl ?_ | refine G.condF rfl ?_ | refine sFa tb ?_ | refine sLd tb ?_ | refine sLa tb ?_ | refine sLen tb ?_ | refine sFd tb ?_ | refine sBd tb ?_ | refine sBa tb ?_); try (first | refine gl tb ?_ | refine gg tb ?_ | refine ll tb ?_ | refine lg tb ?_))
      refine GL.cons (Step.sliceVl tb i rfl (Op1.of rfl (by first | exact fun _ => rfl | exact fun h => h | exact fun h => bL h | exact fun h => bL (bL h) | exact fun h => bL (bL (bL h)))) (Op1.of rfl (by first | exact fun _ => rfl | exact fun h => h | exact fun h => bL h | exact fun h => bL (bL h) | exact fun h => bL (bL (bL h)))) rfl rfl (fun _ => ⟨_, ho4.sli⟩) (fun _ => ⟨rfl, by omega⟩) rfl ?_)
      try (first | refine gl tb ?_ | refine gg tb ?_ | refine ll tb ?_ | refine lg tb ?_); repeat ((first | refine G.condT rfl ?_ | refine G.condF rfl ?_ | refine sFa tb ?_ | refine sLd tb ?_ | refine sLa tb ?_ | refine sLen tb ?_ | refine sFd tb ?_ | refine sBd tb ?_ | refine sBa tb ?_); try (first | refine gl tb ?_ | refine gg tb ?_ | refine ll tb ?_ | refine lg tb ?_))
      refine GL.cons (Step.copyO tb rfl (Op1.of rfl (by first | exact fun _ => rfl | exact fun h => h | exact fun h => bL h | exact fun h => bL (bL h) | exact fun h => bL (bL (bL h)))) (Op1.of rfl (by first | exact fun _ => rfl | exact fun h => h | exact fun h => bL h | exact fun h => bL (bL h) | exact fun h => bL (bL (bL h)))) rfl rfl rfl ho4 hu4.sli h1x (by omega) (m := 1) (by rw [hl4]; simp only [List.length_cons, List.length_nil]; omega) (by simp) rfl ?_)
      intro w5 ho5 hg5
      try (first | refine gl tb ?_ | refine gg tb ?_ | refine ll tb ?_ | refine lg tb ?_); repeat ((first | refine G.condT rfl ?_ | refine G.condF rfl ?_ | refine sFa tb ?_ | refine sLd tb ?_ | refine sLa tb ?_ | refine sLen tb ?_ | refine sFd tb ?_ | refine sBd tb ?_ | refine sBa tb ?_); try (first | refine gl tb ?_ | refine gg tb ?_ | refine ll tb ?_ | refine lg tb ?_))
      refine G.ret1 rfl rfl rfl rfl ?_
      rw [layB xs x y i hlt] at ho5
      have hg := hg4.trans hg5
      exact ⟨ho5, (Grew.ofExt (Ext.drew w) hB).trans ⟨hg.below, hg.size, hg.block⟩⟩
end Go.Proofs.YtfffblopkaandaaDoor
