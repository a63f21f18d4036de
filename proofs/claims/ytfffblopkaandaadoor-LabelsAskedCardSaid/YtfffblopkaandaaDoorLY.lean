/- labels: a set's bytes and its fingerprint, walked. -/
import Derived.Test.YtfffblopkaandaaDoorGL1
import Derived.Test.YtfffblopkaandaaDoorGV2
open Go Go.Vg Go.RowKit Go.Proofs Go.Proofs.YtfffblopkaandaaDoor
namespace Go.Proofs.YtfffblopkaandaaDoor
set_option linter.unusedSimpArgs false

def encT (s : List UInt8) : List UInt8 := [byI ((s.length : Int) / 2 ^ 8), byI s.length] ++ s
def encX (x : Lab) : List UInt8 := encT x.1 ++ encT x.2
def encL (ls : List Lab) : List UInt8 := byI ls.length :: ls.flatMap encX
def SmallL (ls : List Lab) : Prop := ls.length ≤ 1000 ∧ ∀ x ∈ ls, x.1.length ≤ 1000000 ∧ x.2.length ≤ 1000000
theorem encX_len (x : Lab) : (encX x).length = x.1.length + x.2.length + 4 := by simp [encX, encT]; omega
theorem flat_len {ls : List Lab} (h : ∀ x ∈ ls, x.1.length ≤ 1000000 ∧ x.2.length ≤ 1000000) : (ls.flatMap encX).length ≤ 2000004 * ls.length := by
  induction ls with
  | nil => simp
  | cons a r ih =>
    have h1 := h a (by simp)
    have h2 := ih (fun x hx => h x (by simp [hx]))
    have h3 := encX_len a
    simp only [List.flatMap_cons, List.length_append, List.length_cons] at h2 ⊢; omega
theorem flat_take {ls : List Lab} (h : SmallL ls) (k : Nat) : ((ls.take k).flatMap encX).length ≤ 2000004000 := by
  have h1 := flat_len (ls := ls.take k) (fun x hx => h.2 x (List.mem_of_mem_take hx))
  have h2 : (ls.take k).length ≤ 1000 := by rw [List.length_take]; have := h.1; omega
  have := Nat.mul_le_mul_left 2000004 h2
  omega
theorem flat_snoc (ls : List Lab) (x : Lab) : (ls ++ [x]).flatMap encX = ls.flatMap encX ++ encX x := by simp

abbrev BO (w : World) (B : Nat) (v : Value) (xs : List UInt8) : Prop := Owns w B v 5 1 (bysC xs)

theorem refText_ok (v : Value) (xs s : List UInt8) (B : Nat) (w : World) (hv : BO w B v xs) (hl : xs.length + s.length ≤ 100000000000) (hB : B ≤ w.heap.size) :
    Ret Tryd.prog 68 ⟨[v, S s]⟩ w fun r w' => BO w' B r (xs ++ encT s) ∧ w.heap.size ≤ w'.heap.size ∧ ∀ w0, Below B w0 w → Below B w0 w' := by
  refine ret_of_G Tryd.func68 rfl Tryd.ntmps68 rfl ?_
  simp only [argEnv]
  try (first | refine gl tb ?_ | refine gg tb ?_ | refine ll tb ?_ | refine lg tb ?_); repeat ((first | refine G.condT rfl ?_ | refine G.condF rfl ?_ | refine sFa tb ?_ | refine sLd tb ?_ | refine sLa tb ?_ | refine sLen tb ?_ | refine sFd tb ?_ | refine sBd tb ?_ | refine sBa tb ?_); try (first | refine gl tb ?_ | refine gg tb ?_ | refine ll tb ?_ | refine lg tb ?_))
  refine sShr rfl ?_
  try (first | refine gl tb ?_ | refine gg tb ?_ | refine ll tb ?_ | refine lg tb ?_); repeat ((first | refine G.condT rfl ?_ | refine G.condF rfl ?_ | refine sFa tb ?_ | refine sLd tb ?_ | refine sLa tb ?_ | refine sLen tb ?_ | refine sFd tb ?_ | refine sBd tb ?_ | refine sBa tb ?_); try (first | refine gl tb ?_ | refine gg tb ?_ | refine ll tb ?_ | refine lg tb ?_))
  refine sCb tb ?_
  try (first | refine gl tb ?_ | refine gg tb ?_ | refine ll tb ?_ | refine lg tb ?_); repeat ((first | refine G.condT rfl ?_ | refine G.condF rfl ?_ | refine sFa tb ?_ | refine sLd tb ?_ | refine sLa tb ?_ | refine sLen tb ?_ | refine sFd tb ?_ | refine sBd tb ?_ | refine sBa tb ?_); try (first | refine gl tb ?_ | refine gg tb ?_ | refine ll tb ?_ | refine lg tb ?_))
  refine sCb tb ?_
  refine sBs' tb (bysC [byI ((s.length : Int) / 2 ^ 8), byI s.length]) ?_ (hkl := bysC_k _)
  intro v1 w1 ho1 hs1 hx1
  refine sApb tb (hv.to hx1) ho1.sli ?_
  intro v2 w2 ho2 hg2
  have hsz := hg2.size
  try (first | refine gl tb ?_ | refine gg tb ?_ | refine ll tb ?_ | refine lg tb ?_); repeat ((first | refine G.condT rfl ?_ | refine G.condF rfl ?_ | refine sFa tb ?_ | refine sLd tb ?_ | refine sLa tb ?_ | refine sLen tb ?_ | refine sFd tb ?_ | refine sBd tb ?_ | refine sBa tb ?_); try (first | refine gl tb ?_ | refine gg tb ?_ | refine ll tb ?_ | refine lg tb ?_))
  refine sAps tb ho2 ?_
  intro v3 w3 ho3 hg3
  have hsz3 := hg3.size
  try (first | refine gl tb ?_ | refine gg tb ?_ | refine ll tb ?_ | refine lg tb ?_); repeat ((first | refine G.condT rfl ?_ | refine G.condF rfl ?_ | refine sFa tb ?_ | refine sLd tb ?_ | refine sLa tb ?_ | refine sLen tb ?_ | refine sFd tb ?_ | refine sBd tb ?_ | refine sBa tb ?_); try (first | refine gl tb ?_ | refine gg tb ?_ | refine ll tb ?_ | refine lg tb ?_))
  refine G.ret1 rfl rfl rfl rfl ?_
  refine ⟨by unfold encT; rw [← List.append_assoc]; exact ho3, by omega, fun w0 h => hg3.below _ (hg2.below _ (Below.ext h hx1 hB))⟩

theorem refBytes_ok (v : Value) (ls : List Lab) (w : World) (hv : Labs w v ls) (hn : SmallL ls) :
    Ret Tryd.prog 38 ⟨[v]⟩ w fun r w' => BO w' w.heap.size r (encL ls) ∧ Ext w w' := by
  have hn1 := hn.1
  refine ret_of_G Tryd.func38 rfl Tryd.ntmps38 rfl ?_
  simp only [argEnv]
  try (first | refine gl tb ?_ | refine gg tb ?_ | refine ll tb ?_ | refine lg tb ?_); repeat ((first | refine G.condT rfl ?_ | refine G.condF rfl ?_ | refine sFa tb ?_ | refine sLd tb ?_ | refine sLa tb ?_ | refine sLen tb ?_ | refine sFd tb ?_ | refine sBd tb ?_ | refine sBa tb ?_); try (first | refine gl tb ?_ | refine gg tb ?_ | refine ll tb ?_ | refine lg tb ?_))
  simp only [List.length_map]
  refine sCb tb ?_
  refine sBs' tb (bysC [byI ls.length]) ?_ (hkl := bysC_k _)
  intro v1 w1 ho1 hs1 hx1
  try (first | refine gl tb ?_ | refine gg tb ?_ | refine ll tb ?_ | refine lg tb ?_); repeat ((first | refine G.condT rfl ?_ | refine G.condF rfl ?_ | refine sFa tb ?_ | refine sLd tb ?_ | refine sLa tb ?_ | refine sLen tb ?_ | refine sFd tb ?_ | refine sBd tb ?_ | refine sBa tb ?_); try (first | refine gl tb ?_ | refine gg tb ?_ | refine ll tb ?_ | refine lg tb ?_))
  refine (G.loop (fun x : Nat × Value => [(0, none, v), (3, none, x.2), (4, none, .int .i64 x.1)]) (fun x w' => Ext w w' ∧ x.1 ≤ ls.length ∧ BO w' w.heap.size x.2 (byI ls.length :: (ls.take x.1).flatMap encX)) (fun x => ls.length - x.1) (0, v1) (by repeat (first | exact Sub.nil _ | refine Sub.cons rfl ?_)) ⟨hx1, by simp, ho1⟩ ?_)
  rintro ⟨k, s⟩ w2 ⟨hx2, hk, ho⟩
  simp only at hk ho ⊢
  have hv2 := hv.to hx2
  have hfl := flat_take hn k
  have hsz2 := hx2.size
  try (first | refine gl tb ?_ | refine gg tb ?_ | refine ll tb ?_ | refine lg tb ?_); repeat ((first | refine G.condT rfl ?_ | refine G.condF rfl ?_ | refine sFa tb ?_ | refine sLd tb ?_ | refine sLa tb ?_ | refine sLen tb ?_ | refine sFd tb ?_ | refine sBd tb ?_ | refine sBa tb ?_); try (first | refine gl tb ?_ | refine gg tb ?_ | refine ll tb ?_ | refine lg tb ?_))
  simp only [List.length_map]
  try (first | refine gl tb ?_ | refine gg tb ?_ | refine ll tb ?_ | refine lg tb ?_); repeat ((first | refine G.condT rfl ?_ | refine G.condF rfl ?_ | refine sFa tb ?_ | refine sLd tb ?_ | refine sLa tb ?_ | refine sLen tb ?_ | refine sFd tb ?_ | refine sBd tb ?_ | refine sBa tb ?_); try (first | refine gl tb ?_ | refine gg tb ?_ | refine ll tb ?_ | refine lg tb ?_))
  first | refine G.condD rfl (fun hc => ?_) (fun hc => ?_) | refine G.condN rfl (fun hc => ?_) (fun hc => ?_) | refine G.cond rfl (fun hc => ?_) (fun hc => ?_)
  · have hlt : k < ls.length := by omega
    obtain ⟨x, hmem, hget, htk, -, -⟩ := Labs.at hlt
    have hxs := hn.2 x hmem
    have hsn : (ls.take (k + 1)).flatMap encX = (ls.take k).flatMap encX ++ encX x := by rw [htk, flat_snoc]
    have hex := encX_len x
    try (first | refine gl tb ?_ | refine gg tb ?_ | refine ll tb ?_ | refine lg tb ?_); repeat ((first | refine G.condT rfl ?_ | refine G.condF rfl ?_ | refine sFa tb ?_ | refine sLd tb ?_ | refine sLa tb ?_ | refine sLen tb ?_ | refine sFd tb ?_ | refine sBd tb ?_ | refine sBa tb ?_); try (first | refine gl tb ?_ | refine gg tb ?_ | refine ll tb ?_ | refine lg tb ?_))
    refine G.regionM [(0, true), (1, true), (2, true), (3, true), (4, true), (5, true), (7, true), (8, true), (9, true), (10, true), (11, true), (6, false), (12, false), (13, true)] (Ext w) (by kernel_rfl) (by kernel_rfl) rfl mixed (hx2.drew') rfl ?_
    have hd2 := hx2.drew'.size
    try (refine mm tb ?_); repeat ((first | refine dFa tb ?_ | refine dLd tb ?_ | refine dLa tb ?_ | refine dLen tb ?_ | refine dFd tb ?_); try (refine mm tb ?_))
    refine dIa tb k ?_
    try (refine mm tb ?_); repeat ((first | refine dFa tb ?_ | refine dLd tb ?_ | refine dLa tb ?_ | refine dLen tb ?_ | refine dFd tb ?_); try (refine mm tb ?_))
    refine dIa tb k ?_
    try (refine mm tb ?_); repeat ((first | refine dFa tb ?_ | refine dLd tb ?_ | refine dLa tb ?_ | refine dLen tb ?_ | refine dFd tb ?_); try (refine mm tb ?_))
    refine GM.eff (Step.callF rfl rfl rfl c68 rfl (refText_ok s _ x.1 w.heap.size w2.drew (ho.to (Ext.drew w2)) (by simp only [List.length_cons]; omega) hd2) ?_)
    rintro r w3 ⟨ho3, hs3, hb3⟩
    have hx3 := hb3 _ hx2.drew'
    refine ⟨hx3, ?_⟩
    refine GM.eff (Step.callF rfl rfl rfl c68 rfl (refText_ok r _ x.2 w.heap.size w3 ho3 (by simp only [List.length_append, List.length_cons, encT, List.length_nil]; omega) hx3.size) ?_)
    rintro r2 w4 ⟨ho4, hs4, hb4⟩
    have hx4 := hb4 _ hx3
    refine ⟨hx4, ?_⟩
    try (refine mm tb ?_); repeat ((first | refine dFa tb ?_ | refine dLd tb ?_ | refine dLa tb ?_ | refine dLen tb ?_ | refine dFd tb ?_); try (refine mm tb ?_))
    refine GM.nil ?_
    try (first | refine gl tb ?_ | refine gg tb ?_ | refine ll tb ?_ | refine lg tb ?_); repeat ((first | refine G.condT rfl ?_ | refine G.condF rfl ?_ | refine sFa tb ?_ | refine sLd tb ?_ | refine sLa tb ?_ | refine sLen tb ?_ | refine sFd tb ?_ | refine sBd tb ?_ | refine sBa tb ?_); try (first | refine gl tb ?_ | refine gg tb ?_ | refine ll tb ?_ | refine lg tb ?_))
    refine sAd tb ?_
    try (first | refine gl tb ?_ | refine gg tb ?_ | refine ll tb ?_ | refine lg tb ?_); repeat ((first | refine G.condT rfl ?_ | refine G.condF rfl ?_ | refine sFa tb ?_ | refine sLd tb ?_ | refine sLa tb ?_ | refine sLen tb ?_ | refine sFd tb ?_ | refine sBd tb ?_ | refine sBa tb ?_); try (first | refine gl tb ?_ | refine gg tb ?_ | refine ll tb ?_ | refine lg tb ?_))
    exact G.lp (x := (k, s)) (k + 1, r2) (by repeat (first | exact Sub.nil _ | refine Sub.cons rfl ?_)) ⟨hx4, by simp only; omega, by simp only [hsn, encX]; simpa using ho4⟩ (by simp only; omega)
  · have hke : k = ls.length := by omega
    subst hke
    rw [List.take_length] at ho
    try (first | refine gl tb ?_ | refine gg tb ?_ | refine ll tb ?_ | refine lg tb ?_); repeat ((first | refine G.condT rfl ?_ | refine G.condF rfl ?_ | refine sFa tb ?_ | refine sLd tb ?_ | refine sLa tb ?_ | refine sLen tb ?_ | refine sFd tb ?_ | refine sBd tb ?_ | refine sBa tb ?_); try (first | refine gl tb ?_ | refine gg tb ?_ | refine ll tb ?_ | refine lg tb ?_))
    refine G.ret1 rfl rfl rfl rfl ?_
    exact ⟨ho, hx2⟩


theorem bytes_ok (v : Value) (ls : List Lab) (w : World) (hv : Labs w v ls) (hn : SmallL ls) :
    Ret Tryd.prog 37 ⟨[v]⟩ w fun r w' => BO w' w.heap.size r (encL ls) ∧ Ext w w' := by
  have hn1 := hn.1
  refine ret_of_GM Tryd.func37 rfl Tryd.ntmps37 rfl ?_
  simp only [argEnv]
  try (first | refine gl tb ?_ | refine gg tb ?_ | refine ll tb ?_ | refine lg tb ?_); repeat ((first | refine G.condT rfl ?_ | refine G.condF rfl ?_ | refine sFa tb ?_ | refine sLd tb ?_ | refine sLa tb ?_ | refine sLen tb ?_ | refine sFd tb ?_ | refine sBd tb ?_ | refine sBa tb ?_); try (first | refine gl tb ?_ | refine gg tb ?_ | refine ll tb ?_ | refine lg tb ?_))
  simp only [List.length_map]
  refine sCb tb ?_
  refine sBs' tb (bysC [byI ls.length]) ?_ (hkl := bysC_k _)
  intro v1 w1 ho1 hs1 hx1
  refine sAl tb ?_
  intro w2 hb2 hs2 hx2
  have ho2 := ho1.to hx2
  refine sSt tb ?_
  intro w3 hb3 hw3
  have hx3 : Ext w w3 := Below.wr (hx1.trans hx2) hw3 hx1.size
  have ho3 : BO w3 w.heap.size v1 [byI ls.length] := ho1.to (Below.wr (B := w1.heap.size) hx2 hw3 (Nat.le_refl _))
  try (first | refine gl tb ?_ | refine gg tb ?_ | refine ll tb ?_ | refine lg tb ?_); repeat ((first | refine G.condT rfl ?_ | refine G.condF rfl ?_ | refine sFa tb ?_ | refine sLd tb ?_ | refine sLa tb ?_ | refine sLen tb ?_ | refine sFd tb ?_ | refine sBd tb ?_ | refine sBa tb ?_); try (first | refine gl tb ?_ | refine gg tb ?_ | refine ll tb ?_ | refine lg tb ?_))
  refine sCall c13 (all_ok v ls w3 (hv.to hx3)) ?_
  rintro r w4 ⟨b, rfl, hb, hbx, hx4⟩
  have hb4 := hb3.to hx4
  have ho4 := ho3.to hx4
  have hx04 := hx3.trans hx4
  have hz4 := hx4.size
  have hz3 := hw3.size
  have hbne : w2.heap.size ≤ b := by have := hw3.size; omega
  clear ho1 hx1 ho2 hb2 hx2 hb3 hw3 hx3 ho3 hx4
  have hz04 := hx04.size
  try (first | refine gl tb ?_ | refine gg tb ?_ | refine ll tb ?_ | refine lg tb ?_); repeat ((first | refine G.condT rfl ?_ | refine G.condF rfl ?_ | refine sFa tb ?_ | refine sLd tb ?_ | refine sLa tb ?_ | refine sLen tb ?_ | refine sFd tb ?_ | refine sBd tb ?_ | refine sBa tb ?_); try (first | refine gl tb ?_ | refine gg tb ?_ | refine ll tb ?_ | refine lg tb ?_))
  refine G.rangeFunc rfl rfl c53 (all1_ok v ls b) rfl rfl (by intro x hx; obtain ⟨y, _, rfl⟩ := List.mem_map.1 hx; rfl)
    (fun i W => Ext w W ∧ Bx W b [v] ∧ w4.heap.size ≤ W.heap.size ∧ ∃ s, Bx W w1.heap.size [s] ∧ BO W w.heap.size s (byI ls.length :: (ls.take i).flatMap encX)) (fun _ _ => False) ?_ ?_ ?_ ?_ ?_ ?_ ?_
  · rintro l hl i W W' ⟨h1, h2, h3, s, h4, h5⟩ hk
    exact ⟨Below.kept h1 hk (by omega) h1.size, h2.kept hk, by have := hk.2.size; omega, s, h4.kept hk, h5.kept hk⟩
  · exact fun _ _ _ _ _ h _ => h
  · rintro i W ⟨h1, h2, _⟩
    exact ⟨h2.cells.one, hv.to h1⟩
  · exact fun w' h => ⟨hx04.trans h, hbx.to h, h.size, _, hb4.to h, ho4.to h⟩
  · rintro l r rc i x W hl hlr hxi ⟨h1, h2, h3, s, h4, h5⟩ hLp
    simp only [List.getElem?_map, Option.map_eq_some_iff] at hxi
    obtain ⟨y, hy, rfl⟩ := hxi
    try (first | refine gl tb ?_ | refine gg tb ?_ | refine ll tb ?_ | refine lg tb ?_); repeat ((first | refine G.condT rfl ?_ | refine G.condF rfl ?_ | refine sFa tb ?_ | refine sLd tb ?_ | refine sLa tb ?_ | refine sLen tb ?_ | refine sFd tb ?_ | refine sBd tb ?_ | refine sBa tb ?_); try (first | refine gl tb ?_ | refine gg tb ?_ | refine ll tb ?_ | refine lg tb ?_))
    refine G.beg rfl rfl rfl hLp hlr ?_
    intro W2 hk hLp2 hsz
    have h1' : Ext w W2 := Below.kept h1 hk (by omega) h1.size
    have h2' := h2.kept hk
    have h4' := h4.kept hk
    have h5' := h5.kept hk
    have h3' : w4.heap.size ≤ W2.heap.size := by omega
    clear h1 h2 h4 h5 hk hLp h3
    have hmem : y ∈ ls := List.mem_of_getElem? hy
    have hlt : i < ls.length := (List.getElem?_eq_some_iff.1 hy).1
    have htk : ls.take (i + 1) = ls.take i ++ [y] := by
      rw [List.take_succ_eq_append_getElem hlt, (List.getElem?_eq_some_iff.1 hy).2]
    have hrs : (ls.take (i + 1)).flatMap encX = (ls.take i).flatMap encX ++ encX y := by rw [htk, flat_snoc]
    have hfl := flat_take hn i
    have hys := hn.2 y hmem
    try (first | refine gl tb ?_ | refine gg tb ?_ | refine ll tb ?_ | refine lg tb ?_); repeat ((first | refine G.condT rfl ?_ | refine G.condF rfl ?_ | refine sFa tb ?_ | refine sLd tb ?_ | refine sLa tb ?_ | refine sLen tb ?_ | refine sFd tb ?_ | refine sBd tb ?_ | refine sBa tb ?_); try (first | refine gl tb ?_ | refine gg tb ?_ | refine ll tb ?_ | refine lg tb ?_))
    have hpre : ∀ j, j ≤ 2 → ∃ t : List UInt8, t = ([encT y.1, encT y.2].take j).flatten ∧ t.length ≤ 2000004 := by
      intro j hj
      refine ⟨_, rfl, ?_⟩
      rcases (show j = 0 ∨ j = 1 ∨ j = 2 by omega) with rfl | rfl | rfl <;> simp [encT] <;> omega
    refine (G.loop (fun j : Nat => [(3, none, ptr w1.heap.size), (18, none, .agg ⟨[S y.1, S y.2]⟩), (19, none, .int .i64 j)])
      (fun j W => j ≤ 2 ∧ Ext w W ∧ Bx W b [v] ∧ w4.heap.size ≤ W.heap.size ∧ Lp l r { rc with state := .busy } W ∧ ∃ s, Bx W w1.heap.size [s] ∧ BO W w.heap.size s (byI ls.length :: (ls.take i).flatMap encX ++ ([encT y.1, encT y.2].take j).flatten))
      (fun j => 2 - j) 0 (by repeat (first | exact Sub.nil _ | refine Sub.cons rfl ?_)) ⟨by omega, h1', h2', h3', hLp2, s, h4', by simpa using h5'⟩ ?_)
    clear h1' h2' h3' h4' h5' hLp2 hsz
    rintro j W ⟨hj, h1, h2, h3, hLp, s, h4, h5⟩
    obtain ⟨t, ht, htl⟩ := hpre j hj
    try (first | refine gl tb ?_ | refine gg tb ?_ | refine ll tb ?_ | refine lg tb ?_); repeat ((first | refine G.condT rfl ?_ | refine G.condF rfl ?_ | refine sFa tb ?_ | refine sLd tb ?_ | refine sLa tb ?_ | refine sLen tb ?_ | refine sFd tb ?_ | refine sBd tb ?_ | refine sBa tb ?_); try (first | refine gl tb ?_ | refine gg tb ?_ | refine ll tb ?_ | refine lg tb ?_))
    first | refine G.condD rfl (fun hc => ?_) (fun hc => ?_) | refine G.condN rfl (fun hc => ?_) (fun hc => ?_) | refine G.cond rfl (fun hc => ?_) (fun hc => ?_)
    · have hj2 : j < 2 := by omega
      obtain ⟨z, hz⟩ : ∃ z, [y.1, y.2][j]? = some z := ⟨[y.1, y.2][j]'(by simpa using hj2), by simp [hj2]⟩
      have hz1 : [S y.1, S y.2][j]? = some (S z) := by
        have : [S y.1, S y.2] = [y.1, y.2].map S := rfl
        rw [this, List.getElem?_map, hz]; rfl
      have hz2 : ([encT y.1, encT y.2].take (j + 1)).flatten = ([encT y.1, encT y.2].take j).flatten ++ encT z := by
        have : [encT y.1, encT y.2] = [y.1, y.2].map encT := rfl
        rw [this, ← List.map_take, ← List.map_take, List.take_succ_eq_append_getElem (by simpa using hj2), List.map_append, List.flatten_append]
        have : [y.1, y.2][j]'(by simpa using hj2) = z := by
          have := List.getElem?_eq_some_iff.1 hz; exact this.2
        rw [this]; simp
      have hzl : z.length ≤ 1000000 := by
        have := List.mem_of_getElem? hz
        simp only [List.mem_cons, List.not_mem_nil, or_false] at this
        rcases this with rfl | rfl <;> omega
      rw [← ht] at h5 hz2
      have hbig : (byI ls.length :: (ls.take i).flatMap encX ++ t).length ≤ 2002004005 := by
        simp only [List.length_cons, List.length_append]; omega
      obtain ⟨pre, hpe⟩ : ∃ pre, pre = byI ls.length :: (ls.take i).flatMap encX ++ t := ⟨_, rfl⟩
      have hpn : pre ≠ [] := by rw [hpe]; simp
      have hpe2 : byI ls.length :: (ls.take i).flatMap encX ++ (t ++ encT z) = pre ++ [byI ((z.length : Int) / 2 ^ 8), byI z.length] ++ z := by rw [hpe]; simp [encT]
      have h5nU := h5.sli.nU
      rw [← hpe] at h5 hbig
      try (first | refine gl tb ?_ | refine gg tb ?_ | refine ll tb ?_ | refine lg tb ?_); repeat ((first | refine G.condT rfl ?_ | refine G.condF rfl ?_ | refine sFa tb ?_ | refine sLd tb ?_ | refine sLa tb ?_ | refine sLen tb ?_ | refine sFd tb ?_ | refine sBd tb ?_ | refine sBa tb ?_); try (first | refine gl tb ?_ | refine gg tb ?_ | refine ll tb ?_ | refine lg tb ?_))
      refine sIx tb j (fun _ => ⟨rfl, hj2, hz1⟩) ?_
      try (first | refine gl tb ?_ | refine gg tb ?_ | refine ll tb ?_ | refine lg tb ?_); repeat ((first | refine G.condT rfl ?_ | refine G.condF rfl ?_ | refine sFa tb ?_ | refine sLd tb ?_ | refine sLa tb ?_ | refine sLen tb ?_ | refine sFd tb ?_ | refine sBd tb ?_ | refine sBa tb ?_); try (first | refine gl tb ?_ | refine gg tb ?_ | refine ll tb ?_ | refine lg tb ?_))
      refine sShr rfl ?_
      try (first | refine gl tb ?_ | refine gg tb ?_ | refine ll tb ?_ | refine lg tb ?_); repeat ((first | refine G.condT rfl ?_ | refine G.condF rfl ?_ | refine sFa tb ?_ | refine sLd tb ?_ | refine sLa tb ?_ | refine sLen tb ?_ | refine sFd tb ?_ | refine sBd tb ?_ | refine sBa tb ?_); try (first | refine gl tb ?_ | refine gg tb ?_ | refine ll tb ?_ | refine lg tb ?_))
      refine sCb tb ?_
      try (first | refine gl tb ?_ | refine gg tb ?_ | refine ll tb ?_ | refine lg tb ?_); repeat ((first | refine G.condT rfl ?_ | refine G.condF rfl ?_ | refine sFa tb ?_ | refine sLd tb ?_ | refine sLa tb ?_ | refine sLen tb ?_ | refine sFd tb ?_ | refine sBd tb ?_ | refine sBa tb ?_); try (first | refine gl tb ?_ | refine gg tb ?_ | refine ll tb ?_ | refine lg tb ?_))
      refine sCb tb ?_
      refine sBs' tb (bysC [byI ((z.length : Int) / 2 ^ 8), byI z.length]) ?_ (hkl := bysC_k _)
      intro v2 W1 ho1 hs1 hx1
      have h51 := h5.to hx1
      have h41 := h4.to hx1
      have h21 := h2.to hx1
      have hL1 := hLp.to hx1
      have h11 := h1.trans hx1
      refine sApb tb h51 ho1.sli ?_ (hB := h11.size)
      intro v3 W2 ho2 hg2
      have ne4 := h51.neB hpn h41 h51.sli.nU
      have h42 := h41.grew hg2 ne4
      have h22 := h21.grew hg2 (h51.neB hpn h21 hv.nU)
      have hL2 := h51.lp hL1 hg2
      have h12 : Ext w W2 := hg2.below _ h11
      have hsz2 := hg2.size
      clear ho1 h51 h41 h21 hL1 h11 h5 h4 h2 hLp h1
      refine sSt tb ?_
      intro W3 hb3 hw3
      have ho3 := ho2.wr2 hw3 (ho2.neB (by simp) h42 h5nU)
      have h23 := h22.wr hw3 (by omega)
      have hL3 := hL2.wr h42 hw3
      have h13 : Ext w W3 := Below.wr h12 hw3 (by omega)
      have hsz3 := hw3.size
      have h5nU2 := ho3.sli.nU
      have ne4 := ho3.neB (by simp) hb3 ho3.sli.nU
      have ne2 := ho3.neB (by simp) h23 hv.nU
      clear h42 h22 hL2 h12 ho2 hg2 hw3
      try (first | refine gl tb ?_ | refine gg tb ?_ | refine ll tb ?_ | refine lg tb ?_); repeat ((first | refine G.condT rfl ?_ | refine G.condF rfl ?_ | refine sFa tb ?_ | refine sLd tb ?_ | refine sLa tb ?_ | refine sLen tb ?_ | refine sFd tb ?_ | refine sBd tb ?_ | refine sBa tb ?_); try (first | refine gl tb ?_ | refine gg tb ?_ | refine ll tb ?_ | refine lg tb ?_))
      refine sAps tb ho3 ?_ (hB := h13.size)
      intro v4 W4 ho4 hg4
      have h44 := hb3.grew hg4 ne4
      have h24 := h23.grew hg4 ne2
      have hL4 := ho3.lp hL3 hg4
      have h14 : Ext w W4 := hg4.below _ h13
      have hsz4 := hg4.size
      clear ho3 hb3 h23 hL3 h13 hg4
      refine sSt tb ?_
      intro W5 hb5 hw5
      have ho5 := ho4.wr2 hw5 (ho4.neB (by simp) h44 h5nU2)
      have h25 := h24.wr hw5 (by omega)
      have hL5 := hL4.wr h44 hw5
      have h15 : Ext w W5 := Below.wr h14 hw5 (by omega)
      have hsz5 := hw5.size
      try (first | refine gl tb ?_ | refine gg tb ?_ | refine ll tb ?_ | refine lg tb ?_); repeat ((first | refine G.condT rfl ?_ | refine G.condF rfl ?_ | refine sFa tb ?_ | refine sLd tb ?_ | refine sLa tb ?_ | refine sLen tb ?_ | refine sFd tb ?_ | refine sBd tb ?_ | refine sBa tb ?_); try (first | refine gl tb ?_ | refine gg tb ?_ | refine ll tb ?_ | refine lg tb ?_))
      refine sAd tb ?_
      try (first | refine gl tb ?_ | refine gg tb ?_ | refine ll tb ?_ | refine lg tb ?_); repeat ((first | refine G.condT rfl ?_ | refine G.condF rfl ?_ | refine sFa tb ?_ | refine sLd tb ?_ | refine sLa tb ?_ | refine sLen tb ?_ | refine sFd tb ?_ | refine sBd tb ?_ | refine sBa tb ?_); try (first | refine gl tb ?_ | refine gg tb ?_ | refine ll tb ?_ | refine lg tb ?_))
      exact G.lp (j + 1) (by repeat (first | exact Sub.nil _ | refine Sub.cons rfl ?_)) ⟨by omega, h15, h25, by omega, hL5, v4, hb5, by rw [hz2, hpe2]; exact ho5⟩ (by omega)
    · have hje : j = 2 := by omega
      subst hje
      try (first | refine gl tb ?_ | refine gg tb ?_ | refine ll tb ?_ | refine lg tb ?_); repeat ((first | refine G.condT rfl ?_ | refine G.condF rfl ?_ | refine sFa tb ?_ | refine sLd tb ?_ | refine sLa tb ?_ | refine sLen tb ?_ | refine sFd tb ?_ | refine sBd tb ?_ | refine sBa tb ?_); try (first | refine gl tb ?_ | refine gg tb ?_ | refine ll tb ?_ | refine lg tb ?_))
      exact G.nil fun t _ => ⟨hLp, h1, h2, h3, s, h4, by rw [hrs]; simpa [encX] using h5⟩
  · rintro r W hr ⟨h1, h2, h3, s, h4, h5⟩ hD
    rw [List.length_map, List.take_length] at h5
    try (first | refine gl tb ?_ | refine gg tb ?_ | refine ll tb ?_ | refine lg tb ?_); repeat ((first | refine G.condT rfl ?_ | refine G.condF rfl ?_ | refine sFa tb ?_ | refine sLd tb ?_ | refine sLa tb ?_ | refine sLen tb ?_ | refine sFd tb ?_ | refine sBd tb ?_ | refine sBa tb ?_); try (first | refine gl tb ?_ | refine gg tb ?_ | refine ll tb ?_ | refine lg tb ?_))
    refine G.retM rfl rfl hD fun t ht => ⟨_, res1 ht rfl rfl _, ?_, h1.wr (outW_wr r _) (by omega)⟩
    exact h5.wr2 (outW_wr r _) (hD.neO h5)
  · rintro r c W hr h hD
    exact h.elim
end Go.Proofs.YtfffblopkaandaaDoor
