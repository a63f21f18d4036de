/- RegexAll: whatever expression, texts and stop, the law of listings returns true and leaves what came in alone. Conditions: none beyond the statement's own. -/
import Derived.Test.YtbpkhgehchelhaaDoorP09
set_option linter.unusedSimpArgs false
set_option linter.unusedVariables false
set_option linter.unusedSectionVars false
section
open Go Go.Vg Go.RowKit Go.Proofs Go.Proofs.YtbpkhgehchelhaaDoor
namespace Go.Proofs.YtbpkhgehchelhaaDoor

theorem within_ok (n m : Int) (w : World) (hm : 1 ≤ m) (hm2 : m ≤ 9223372036854775807) : Ret Tryd.prog 22 ⟨[.int .i64 n, .int .i64 m]⟩ w fun r w' => r = .int .i64 (n % m) ∧ w' = w := by
  have h1 := Int.tmod_eq_emod (a := n) (b := m)
  have h2 := Int.emod_nonneg n (b := m) (by omega)
  have h3 := Int.emod_lt_of_pos n (b := m) (by omega)
  obtain ⟨r, hr⟩ : ∃ r, r = n.tmod m := ⟨_, rfl⟩
  have hr1 : r < 0 → r + m = n % m := by
    intro h; rw [← hr] at h1; split at h1 <;> omega
  have hr2 : ¬ r < 0 → r = n % m := by
    intro h; rw [← hr] at h1; split at h1 <;> omega
  refine ret_of_G Tryd.func22 rfl Tryd.ntmps22 rfl ?_
  simp only [argEnv]
  refine rn ?_
  refine sRem hr.symm ?_
  refine rn ?_
  first | refine G.condD rfl (fun hc => ?_) (fun hc => ?_) | refine G.condN rfl (fun hc => ?_) (fun hc => ?_) | refine G.cond rfl (fun hc => ?_) (fun hc => ?_)
  · refine rn ?_
    have := hr1 hc
    refine sAd tb ?_
    refine rn ?_
    refine G.ret1 rfl rfl rfl rfl ?_
    exact ⟨by rw [this], rfl⟩
  · refine rn ?_
    refine G.ret1 rfl rfl rfl rfl ?_
    exact ⟨by rw [hr2 hc], rfl⟩


/-- the numbers, below k, of the texts that are meant -/
def wantL (m : List UInt8 → Bool) (xs : List (List UInt8)) (k : Nat) : List Int := ((List.range k).filter fun i => m (xs.getD i [])).map fun i => ((i : Nat) : Int)
theorem wantL_succ (m : List UInt8 → Bool) (xs : List (List UInt8)) (k : Nat) : wantL m xs (k + 1) = wantL m xs k ++ (if m (xs.getD k []) then [((k : Nat) : Int)] else []) := by
  unfold wantL
  rw [List.range_succ, List.filter_append, List.map_append]
  congr 1
  cases h : m (xs.getD k [])
  · rw [List.filter_cons, h]; rfl
  · rw [List.filter_cons, h]; rfl
theorem wantL_pre (m : List UInt8 → Bool) (xs : List (List UInt8)) : ∀ n k, k ≤ n → ∃ r, wantL m xs n = wantL m xs k ++ r
  | 0, k, h => ⟨[], by rw [show k = 0 by omega, List.append_nil]⟩
  | n + 1, k, h => by
    by_cases hk : k = n + 1
    · subst hk; exact ⟨[], by rw [List.append_nil]⟩
    · obtain ⟨r, hr⟩ := wantL_pre m xs n k (by omega)
      exact ⟨_, by rw [wantL_succ, hr, List.append_assoc]⟩
theorem wantL_at {m : List UInt8 → Bool} {xs : List (List UInt8)} {n k : Nat} (hk : k < n) (hm : m (xs.getD k []) = true) : (wantL m xs n)[(wantL m xs k).length]? = some ((k : Nat) : Int) := by
  obtain ⟨r, hr⟩ := wantL_pre m xs n (k + 1) hk
  rw [hr, wantL_succ, if_pos hm, List.append_assoc, List.getElem?_append_right (Nat.le_refl _), Nat.sub_self]
  rfl
theorem wantL_len (m : List UInt8 → Bool) (xs : List (List UInt8)) (k : Nat) : (wantL m xs k).length ≤ k := by
  unfold wantL
  rw [List.length_map]
  exact Nat.le_trans (List.length_filter_le _ _) (by simp)
/-- what a listing looks at -/
structure AllD (W : World) (bt bp pb : Nat) (v : Value) (xs : List (List UInt8)) (t : Rx.T) (g : Nat) : Prop where
  ct : Bx W bt [v]
  cp : Bx W bp [ptr pb]
  sl : Sli W v 1 (xs.map strC)
  ex : Exp W pb t g
  tabs : Tabs W
theorem AllD.to {W W' : World} {bt bp pb : Nat} {v : Value} {xs : List (List UInt8)} {t : Rx.T} {g : Nat} (h : AllD W bt bp pb v xs t g) (hx : Ext W W') : AllD W' bt bp pb v xs t g := ⟨h.ct.to hx, h.cp.to hx, h.sl.to hx, h.ex.to hx, h.tabs.to hx⟩
set_option maxHeartbeats 2000000 in
theorem regAll_ok (w : World) (pb : Nat) (v : Value) (xs : List (List UInt8)) (t : Rx.T) (g : Nat) (hv : Sli w v 1 (xs.map strC)) (hl : xs.length ≤ 1000) (hT : Tabs w) (hE : Exp w pb t g) :
    Ret Tryd.prog 26 ⟨[ptr pb, v]⟩ w fun r w' => ∃ bt bp u, r = .func (.func 42) #[] ⟨[ptr bt, ptr bp]⟩ ∧ AllD w' bt bp pb u xs t g ∧ w.heap.size ≤ bt ∧ w.heap.size ≤ bp ∧ Ext w w' := by
  have hll : (xs.map strC).length = xs.length := by simp
  refine ret_of_G Tryd.func26 rfl Tryd.ntmps26 rfl ?_
  simp only [argEnv]
  refine rn ?_
  refine sBox (us := [ptr pb]) (fun W1 hb1 hs1 hx1 => ?_) (hv := rfl)
  have hv1 := hv.to hx1
  refine sBox (us := [v]) (fun W2 hb2 hs2 hx2 => ?_) (hv := hv1.cells)
  have hv2 := hv1.to hx2
  have hx02 := hx1.trans hx2
  refine rn ?_
  refine sApp tb (Owns.nil W2 W2.heap.size _ _) hv2 (fun u W3 ho3 hg3 => ?_) (h1 := fun y hy c hc => by
    obtain ⟨s, _, rfl⟩ := List.mem_map.1 hy
    simp only [strC, List.mem_cons, List.not_mem_nil, or_false] at hc
    subst hc; rfl) (hb := by simp only [List.length_nil, hll]; omega) (hl := by simp only [List.length_nil, hll]; omega)
  rw [List.nil_append] at ho3
  have hx3 : Ext W2 W3 := hg3.below _ (Ext.refl _)
  have hx03 := hx02.trans hx3
  have hb23 := hb2.to hx3
  have h12 := hx1.size
  refine sSt tb (vs := [u]) (fun W4 hb4 hw4 => ?_) (hv := ho3.cells) (h1 := ho3.sli.one)
  have hlt1 := hb1.lt
  have hsl : Sli W4 u 1 (xs.map strC) := (ho3.wr hw4 (by omega)).sli
  have hx04 : Ext w W4 := hx03.wr hw4 (by omega)
  have hb14 : Bx W4 w.heap.size [ptr pb] := ((hb1.to hx2).to hx3).wr hw4 (by omega)
  refine rn ?_
  refine G.ret1 rfl rfl rfl rfl ?_
  exact ⟨_, _, u, rfl, ⟨hb4, hb14, hsl, hE.to hx04, hT.to hx04⟩, h12, Nat.le_refl _, hx04⟩
set_option maxHeartbeats 2000000 in
theorem regAll1_ok (bt bp pb : Nat) (v : Value) (xs : List (List UInt8)) (t : Rx.T) (g : Nat) (hxl : ∀ x ∈ xs, x.length ≤ 100000) : IterOk Tryd.prog 42 [ptr bt, ptr bp] ((wantL (Rx.mt t g) xs xs.length).map inC) (fun W => AllD W bt bp pb v xs t g) := by
  intro l I St w hD hI hSt h0 hY
  have hll : (xs.map strC).length = xs.length := by simp
  refine ret_of_G Tryd.func42 rfl Tryd.ntmps42 rfl ?_
  simp only [argEnv]
  have h0' := hD 0 w h0
  have hb0 := h0'.ct
  have hs0 := h0'.sl
  have hxb := hs0.bound
  rw [hll] at hxb
  refine rn ?_
  rw [hll]
  refine (G.loop (fun k : Nat => [(0, none, yieldV l), (2, none, ptr bp), (6, none, v), (7, none, .int .i64 xs.length), (8, none, .int .i64 k)]) (fun k w' => k ≤ xs.length ∧ I (wantL (Rx.mt t g) xs k).length w') (fun k => xs.length - k) 0 (by repeat (first | exact Sub.nil _ | refine Sub.cons rfl ?_)) ⟨Nat.zero_le _, h0⟩ ?_)
  clear h0 h0' hb0 hs0
  rintro k w ⟨hk, hIk⟩
  have hDk := hD _ w hIk
  have hsl := hDk.sl
  refine rn ?_
  first | refine G.condD rfl (fun hc => ?_) (fun hc => ?_) | refine G.condN rfl (fun hc => ?_) (fun hc => ?_) | refine G.cond rfl (fun hc => ?_) (fun hc => ?_)
  · have hlt : k < xs.length := by omega
    have hget : (xs.map strC)[k]? = some [S xs[k]] := by rw [List.getElem?_map, List.getElem?_eq_getElem hlt]; rfl
    have hgd : xs.getD k [] = xs[k] := by rw [List.getD_eq_getElem?_getD, List.getElem?_eq_getElem hlt]; rfl
    have hxk := hxl xs[k] (List.getElem_mem hlt)
    have hat := wantL_at (m := Rx.mt t g) (xs := xs) hlt
    have hsu := wantL_succ (Rx.mt t g) xs k
    rw [hgd] at hat hsu
    generalize xs[k] = x at hget hxk hat hsu
    have hbp := hDk.cp
    refine rn ?_
    refine sIa tb k ?_ (hj := fun _ => ⟨rfl, by rw [hll]; exact hlt⟩)
    refine rn ?_
    refine sCall c18 (match_ok w pb t g x hDk.tabs hDk.ex hxk) ?_
    rintro _ w1 ⟨rfl, hx1⟩
    cases hm : Rx.mt t g x
    · rw [hm, if_neg (by decide), List.append_nil] at hsu
      refine rn ?_
      refine GL.cons (Step.off (v := .bool false) rfl (of_decide_eq_true rfl) rfl ?_)
      refine rn ?_
      refine sAd tb (r := ((k + 1 : Nat) : Int)) ?_
      refine rn ?_
      exact G.lp (k + 1) (by repeat (first | exact Sub.nil _ | refine Sub.cons rfl ?_)) ⟨by omega, by rw [hsu]; exact hI _ _ _ hIk hx1⟩ (by omega)
    · rw [hm, if_pos rfl] at hsu
      refine rn ?_
      refine GL.cons (Step.yieldC (vs := inC k) rfl rfl (Op1.of rfl (by first | exact fun _ => rfl | exact fun h => h | exact fun h => bL h | exact fun h => bL (bL h) | exact fun h => bL (bL (bL h)))) rfl (by repeat (first | exact OpL.nil | refine OpL.cons (Op1.of rfl (by first | exact fun _ => rfl | exact fun h => h | exact fun h => bL h | exact fun h => bL (bL h) | exact fun h => bL (bL (bL h)))) ?_)) rfl (hY _ _ w1 (by rw [List.getElem?_map, hat hm]; rfl) (hI _ _ _ hIk hx1)) ?_)
      intro bb w3 hR
      cases bb with
      | true =>
        refine rn ?_
        refine sAd tb (r := ((k + 1 : Nat) : Int)) ?_
        refine rn ?_
        exact G.lp (k + 1) (by repeat (first | exact Sub.nil _ | refine Sub.cons rfl ?_)) ⟨by omega, by rw [hsu, List.length_append]; exact hR⟩ (by omega)
      | false =>
        refine rn ?_
        exact G.ret0 rfl rfl rfl (.inr hR)
  · obtain rfl : k = xs.length := by omega
    refine rn ?_
    exact G.end0 rfl rfl rfl (.inl (by simpa using hIk))
theorem means_eq {s : List UInt8} {t : Rx.T} {g : Nat} (h : Rx.comp s = .ok (t, g)) (x : List UInt8) : meansP s x = Rx.mt t g x := by unfold meansP; rw [h]
set_option maxHeartbeats 4000000 in
theorem regAll_law (s : List UInt8) (v : Value) (ss : List (List UInt8)) (stop : Int) (w : World) (hs : s.length ≤ 9223372036854775807) (hv : Sli w v 1 (ss.map strC)) (hz : ∀ x ∈ ss, x.length ≤ 9223372036854775807) (hT : Tabs w) :
    Ret Tryd.prog 8 ⟨[S s, v, .int .i64 stop]⟩ w fun r w' => r = .bool true ∧ Ext w w' := by
  refine ret_of_GM Tryd.func8 rfl Tryd.ntmps8 rfl ?_
  simp only [argEnv]
  refine rn ?_
  refine sBox (us := [.int .i64 stop]) (fun w1 hb5 hs1 hx1 => ?_) (hv := rfl)
  refine sAl tb (fun w2 hb6 hs2 hx2 => ?_)
  have hb5 := hb5.to hx2
  have hx02 := hx1.trans hx2
  refine rn ?_
  refine sCall c11 (comp_ok w2 s (hT.to hx02) hs) ?_
  rintro _ W1 ⟨hxc, ⟨t, g, pb, hcp, hE, rfl⟩ | ⟨e, f, hcp, rfl⟩⟩
  rotate_left
  · obtain ⟨fv, hfv, hne⟩ : ∃ fv : Int, fv = (if f = 1 then 8 else 9) ∧ fv ≠ 0 := ⟨_, rfl, by split <;> decide⟩
    rw [← hfv]
    have hb6 := hb6.to hxc
    have hx0 := hx02.trans hxc
    refine rn ?_
    refine sPn tb ?_
    refine rn ?_
    first | refine G.condD rfl (fun hc => ?_) (fun hc => ?_) | refine G.condN rfl (fun hc => ?_) (fun hc => ?_) | refine G.cond rfl (fun hc => ?_) (fun hc => ?_)
    rotate_left
    · exfalso; simp [hne] at hc
    clear hc
    refine rn ?_
    refine sCall c12 (compE_ok W1 s hs) ?_
    rintro _ W2 ⟨hx2', ⟨t', g', qb, hcp', _, rfl⟩ | ⟨e', f', hcp', rfl⟩⟩
    · rw [hcp] at hcp'; cases hcp'
    obtain ⟨rfl, rfl⟩ : e' = e ∧ f' = f := by rw [hcp] at hcp'; cases hcp'; exact ⟨rfl, rfl⟩
    rw [← hfv]
    have hb6 := hb6.to hx2'
    have hx0' := hx0.trans hx2'
    refine rn ?_
    refine GL.cons (Step.callX rfl rfl (by repeat (first | exact OpL.nil | refine OpL.cons (Op1.of rfl (by first | exact fun _ => rfl | exact fun h => h | exact fun h => bL h | exact fun h => bL (bL h) | exact fun h => bL (bL (bL h)))) ?_)) c13 rfl (fun hc => wakes_ok W2 (hT.to hx0')) ?_)
    intro W3 hx3
    have hb6 := hb6.to hx3
    refine rn ?_
    have hbe : (decide (fv = fv) && !decide (fv = 0) && true) = true := by simp [hne]
    rw [hbe]
    refine sSt tb (vs := [.bool true]) (fun W4 hb4 hw4 => ?_)
    refine rn ?_
    refine G.retN [] rfl rfl (by simp) (by simp) fun t ht => ⟨_, resC1 ht rfl rfl (tb.ok _ _ rfl) rfl hb4.cells.one, rfl, ?_⟩
    exact Below.wr (hx0'.trans hx3) hw4 (by have := hx1.size; omega)
  have hb5 := hb5.to hxc
  have hb6 := hb6.to hxc
  have hx01 := hx02.trans hxc
  refine rn ?_
  refine sPn tb ?_
  refine rn ?_
  refine sCall c14 (cut_ok v ss W1 (hv.to hx01) hz) ?_
  rintro u W3 ⟨hx3, hu3⟩
  obtain ⟨xs, hxs⟩ : ∃ xs, xs = cutL ss := ⟨_, rfl⟩
  have hsx : ∀ x ∈ xs, x.length ≤ 60 := fun x hx => cutL_len (by rw [← hxs]; exact hx)
  have hx12 : xs.length ≤ 12 := by rw [hxs]; unfold cutL; simp; omega
  rw [← hxs] at hu3
  have hll : (xs.map strC).length = xs.length := by simp
  have hb5 := hb5.to hx3
  have hb6 := hb6.to hx3
  have hx03 := hx01.trans hx3
  refine rn ?_
  refine sCall c26 (regAll_ok W3 pb u xs t g hu3.sli (by omega) (hT.to hx03) (hE.to hx3)) ?_
  rintro _ W4 ⟨bt, bp, u2, rfl, hA, -, -, hx4⟩
  have hb5 := hb5.to hx4
  have hb6 := hb6.to hx4
  have hx04 := hx03.trans hx4
  have hu4 := hu3.sli.to hx4
  have hit := regAll1_ok bt bp pb u2 xs t g (fun x hx => by have := hsx x hx; omega)
  have hw12 := hb6.lt
  have hw02 := hx04.size
  clear hxc hx02 hx01 hx03 hx3 hx4 hu3 hxs hE hx1 hx2
  refine rn ?_
  refine sEqnf tb ?_
  refine rn ?_
  refine sAl tb (us := [.slice none 0 0]) (fun W5 hb14 hs5 hx5 => ?_)
  refine rn ?_
  refine (G.loop (fun x : Nat × Value => [(0, none, S s), (1, none, u), (5, none, ptr w.heap.size), (6, none, ptr w1.heap.size), (13, none, .func (.func 42) #[] ⟨[ptr bt, ptr bp]⟩), (14, none, ptr W4.heap.size), (15, none, .int .i64 x.1)])
    (fun x W => Ext W4 W ∧ Bx W W4.heap.size [x.2] ∧ Owns W (W4.heap.size + 1) x.2 3 1 ((wantL (Rx.mt t g) xs x.1).map inC) ∧ x.1 ≤ xs.length) (fun x => xs.length - x.1) (0, .slice none 0 0) (by repeat (first | exact Sub.nil _ | refine Sub.cons rfl ?_)) ⟨hx5, hb14, Owns.nil _ _ _ _, Nat.zero_le _⟩ ?_)
  clear hb14 hs5 hx5
  rintro ⟨i, wv⟩ W ⟨hx, hb14, how, hi⟩
  simp only at hb14 how hi
  show G _ _ [(0, none, S s), (1, none, u), (5, none, ptr w.heap.size), (6, none, ptr w1.heap.size), (13, none, .func (.func 42) #[] ⟨[ptr bt, ptr bp]⟩), (14, none, ptr W4.heap.size), (15, none, .int .i64 i)] W
  have huW := hu4.to hx
  refine rn ?_
  rw [hll]
  refine rn ?_
  first | refine G.condD rfl (fun hc => ?_) (fun hc => ?_) | refine G.condN rfl (fun hc => ?_) (fun hc => ?_) | refine G.cond rfl (fun hc => ?_) (fun hc => ?_)
  · have hlt : i < xs.length := by omega
    have hget : (xs.map strC)[i]? = some [S xs[i]] := by rw [List.getElem?_map, List.getElem?_eq_getElem hlt]; rfl
    have hgd : xs.getD i [] = xs[i] := by rw [List.getD_eq_getElem?_getD, List.getElem?_eq_getElem hlt]; rfl
    have hxl := hsx xs[i] (List.getElem_mem hlt)
    have hsu := wantL_succ (Rx.mt t g) xs i
    rw [hgd] at hsu
    generalize xs[i] = x at hget hxl hsu
    refine rn ?_
    refine sIa tb i ?_ (hj := fun _ => ⟨rfl, by rw [hll]; exact hlt⟩)
    refine rn ?_
    refine sCall c27 (means_ok W s x hs (by omega)) ?_
    rintro _ W5 ⟨rfl, hx5⟩
    rw [means_eq hcp]
    have hb14' := hb14.to hx5
    clear hb14
    have how5 := how.to hx5
    have hx45 := hx.trans hx5
    cases hm : Rx.mt t g x
    · rw [hm, if_neg (by decide), List.append_nil] at hsu
      refine rn ?_
      refine sAd tb (r := ((i + 1 : Nat) : Int)) ?_
      refine rn ?_
      exact G.lp (x := (i, wv)) (i + 1, wv) (by repeat (first | exact Sub.nil _ | refine Sub.cons rfl ?_)) ⟨hx45, hb14', by simp only; rw [hsu]; exact how5, by simp only; omega⟩ (by simp only; omega)
    · rw [hm, if_pos rfl] at hsu
      refine rn ?_
      refine sBs' tb (([((i : Nat) : Int)] : List Int).map inC) (fun us W6 ho6 hs6 hx6 => ?_) (hkl := by simp [inC])
      have hwl := wantL_len (Rx.mt t g) xs i
      have hlb := hb14'.lt
      have hs56 := hx6.size
      refine sApp tb (how5.to hx6) ho6.sli (fun wv' W7 ho7 hg7 => ?_) (h1 := i1 [_]) (hb := by simp only [List.length_map, List.length_cons, List.length_nil]; omega) (hl := by simp only [List.length_map, List.length_cons, List.length_nil]; omega)
      have hb147 := (hb14'.to hx6).grew hg7 ((how5.to hx6).ne (Nat.lt_succ_self _))
      refine sSt tb (vs := [wv']) (fun W8 hb8 hw8 => ?_) (hv := ho7.cells) (h1 := ho7.sli.one)
      have hx47 : Ext W4 W7 := Below.trans (hx45.trans hx6) ((hg7.below W6 (Below.refl _ _)).mono (Nat.le_succ _))
      have hx48 : Ext W4 W8 := Below.wr hx47 hw8 (Nat.le_refl _)
      have ho8 : Owns W8 (W4.heap.size + 1) wv' 3 1 ((wantL (Rx.mt t g) xs (i + 1)).map inC) := by
        rw [hsu, List.map_append]
        exact ho7.wr hw8 (Nat.lt_succ_self _)
      refine rn ?_
      refine sAd tb (r := ((i + 1 : Nat) : Int)) ?_
      refine rn ?_
      exact G.lp (x := (i, wv)) (i + 1, wv') (by repeat (first | exact Sub.nil _ | refine Sub.cons rfl ?_)) ⟨hx48, hb8, ho8, by simp only; omega⟩ (by simp only; omega)
  obtain rfl : i = xs.length := by omega
  obtain ⟨w6, hw6⟩ : ∃ w6, w6 = W := ⟨_, rfl⟩
  rw [← hw6] at hx hb14 how huW ⊢
  clear hw6
  have hA6 := hA.to hx
  have hb36 := hb5.to hx
  have hb46 := hb6.to hx
  have hb56 := hb14
  have hx06 := hx04.trans hx
  have hs6 := how.sli
  have hlen := wantL_len (Rx.mt t g) xs xs.length
  generalize wantL (Rx.mt t g) xs xs.length = out at hs6 hlen hit
  have hb46l := hb46.lt
  have hb36l := hb36.lt
  have hb56l := hb56.lt
  have hz6 := hx06.size
  have hz46 := hx.size
  clear how hb14 huW hx hb5 hb6 hA hu4 hx04 hc hi
  refine rn ?_
  refine sAl tb ?_
  intro w7 hb7 hs7 hx7
  refine sSt tb ?_
  intro w8 hb7 hw8
  have hx68 : Ext w6 w8 := Below.wr hx7 hw8 (Nat.le_refl _)
  clear hx7 hw8
  refine rn ?_
  refine G.loopD (fun x : Nat × Nat × List Nat => [(5, none, ptr w.heap.size), (6, none, ptr w1.heap.size), (13, none, .func (.func 42) #[] ⟨[ptr bt, ptr bp]⟩), (14, none, ptr W4.heap.size), (16, none, ptr x.2.1)]) (fun x => x.2.2.map col)
    (fun x W => Ext w6 W ∧ x.1 ≤ 2 ∧ Bx W x.2.1 [.int .i64 x.1] ∧ w6.heap.size ≤ x.2.1 ∧ (∀ r ∈ x.2.2, Df r W ∧ w6.heap.size ≤ r) ∧ x.2.2.Nodup) (fun x => 2 - x.1) (0, w6.heap.size, []) rfl (by repeat (first | exact Sub.nil _ | refine Sub.cons rfl ?_)) ⟨hx68, by simp, hb7, Nat.le_refl _, by simp, by simp⟩ ?_
  clear hb7 hx68
  rintro ⟨kk, b7, rs⟩ W ⟨hW, hk, hb7, hb7z, hrs, hnd⟩
  simp only at hk hb7 hb7z hrs hnd ⊢
  refine rn ?_
  first | refine G.condD rfl (fun hc => ?_) (fun hc => ?_) | refine G.condN rfl (fun hc => ?_) (fun hc => ?_) | refine G.cond rfl (fun hc => ?_) (fun hc => ?_)
  · have hk2 : kk < 2 := by omega
    refine rn ?_
    refine sAl tb ?_
    intro W1 hb8 hs1 hxW
    refine sSt tb ?_
    intro W2 hb8 hwW
    have hxW2 : Ext W W2 := Below.wr hxW hwW (Nat.le_refl _)
    have hb72 := hb7.to hxW2
    have hW2 := hW.trans hxW2
    have hz2 := hW2.size
    have hzW := hxW2.size
    have hzW6 := hW.size
    have hwWs := hwW.size
    have hrs2 : ∀ r ∈ rs, Df r W2 ∧ w6.heap.size ≤ r := fun r hr => ⟨(hrs r hr).1.to hxW2, (hrs r hr).2⟩
    have hrlt : ∀ r ∈ rs, r < W2.heap.size := fun r hr => (hrs2 r hr).1.lt
    have hb7l := hb72.lt
    have hb8l := hb8.lt
    obtain ⟨b8, hb8e⟩ : ∃ b8, b8 = W.heap.size := ⟨_, rfl⟩
    have hb7W := hb7.lt
    rw [← hb8e] at hb8 hb8l ⊢
    have hne : b7 ≠ b8 := by omega
    have hb86 : w6.heap.size ≤ b8 := by omega
    clear hxW hwW hxW2 hb7 hW hrs
    refine rn ?_
    refine G.rangeFunc rfl rfl c42 hit rfl rfl (by intro x hx; obtain ⟨y, _, rfl⟩ := List.mem_map.1 hx; rfl)
      (fun i W => Ext w6 W ∧ Bx W b7 [.int .i64 kk] ∧ Bx W b8 [.int .i64 i] ∧ (∀ r ∈ rs, Df r W) ∧ W2.heap.size ≤ W.heap.size ∧ i ≤ out.length)
      (fun c W => c = .exit 4 ∧ kk = 0 ∧ Ext w6 W ∧ Bx W b7 [.int .i64 kk] ∧ (∀ r ∈ rs, Df r W) ∧ W2.heap.size ≤ W.heap.size ∧ ∃ n : Int, Bx W b8 [.int .i64 n]) ?_ ?_ ?_ ?_ ?_ ?_ ?_
    · rintro l hl i W W' ⟨h1, h2, h3, h4, h5, h6⟩ hkk
      exact ⟨Below.kept h1 hkk (by omega) h1.size, h2.kept hkk, h3.kept hkk, fun r hr => (h4 r hr).kept hkk, by have := hkk.2.size; omega, h6⟩
    · rintro l hl c W W' ⟨h0, h00, h1, h2, h4, h5, n, h3⟩ hkk
      exact ⟨h0, h00, Below.kept h1 hkk (by omega) h1.size, h2.kept hkk, fun r hr => (h4 r hr).kept hkk, by have := hkk.2.size; omega, n, h3.kept hkk⟩
    · rintro i W ⟨h1, _⟩
      exact hA6.to h1
    · exact fun w' h => ⟨hW2.trans h, hb72.to h, hb8.to h, fun r hr => (hrs2 r hr).1.to h, h.size, by simp⟩
    · rintro l r rc i x W hl hlr hxi ⟨h1, h2, h3, h4, h5, h6⟩ hLp
      simp only [List.getElem?_map, Option.map_eq_some_iff] at hxi
      obtain ⟨y, hy, rfl⟩ := hxi
      refine rn ?_
      refine G.beg rfl rfl rfl hLp hlr ?_
      intro W3 hkk hLp3 hsz
      have h1' : Ext w6 W3 := Below.kept h1 hkk (by omega) h1.size
      have h2' := h2.kept hkk
      have h3' := h3.kept hkk
      have h4' : ∀ r ∈ rs, Df r W3 := fun r hr => (h4 r hr).kept hkk
      have h5' : W2.heap.size ≤ W3.heap.size := by omega
      clear h1 h2 h3 h4 h5 hkk hLp
      have hlt : i < out.length := (List.getElem?_eq_some_iff.1 hy).1
      have hget : (out.map inC)[i]? = some (inC y) := by simp [hy]
      have hs3 := hs6.to h1'
      have hb33 := hb36.to h1'
      have hb53 := hb56.to h1'
      try (first | refine gl tb ?_ | refine gg tb ?_ | refine ll tb ?_ | refine lg tb ?_); repeat ((first | refine G.condT rfl ?_ | refine G.condF rfl ?_ | refine sFa tb ?_ | refine sLd tb ?_ | refine sLa tb ?_ | refine sLen tb ?_ | refine sFd tb ?_ | refine sBd tb ?_ | refine sIa tb i ?_); try (first | refine gl tb ?_ | refine gg tb ?_ | refine ll tb ?_ | refine lg tb ?_))
      first | refine G.condD rfl (fun hc => ?_) (fun hc => ?_) | refine G.condN rfl (fun hc => ?_) (fun hc => ?_) | refine G.cond rfl (fun hc => ?_) (fun hc => ?_)
      · exfalso
        simp only [List.length_map, decide_true, Bool.not_true, Bool.or_false, decide_eq_true_eq] at hc
        omega
      · clear hc
        refine rn ?_
        refine sAd tb ?_
        refine sSt tb ?_
        intro W4 hb84 hw4
        have h14 : Ext w6 W4 := Below.wr h1' hw4 hb86
        have hb74 := h2'.wr hw4 hne
        have h44 : ∀ r ∈ rs, Df r W4 := fun r hr => (h4' r hr).wr h3' hw4
        have hL4 := hLp3.wr h3' hw4
        have hz4 := hw4.size
        clear h1' h2' h4' hLp3 h3' hs3 hb33 hb53 hw4
        have hs3 := hs6.to h14
        have hb33 := hb36.to h14
        have hb53 := hb56.to h14
        refine rn ?_
        refine G.regionM [(0, true), (1, true), (2, true), (3, true), (4, true), (5, true), (6, true), (7, true), (8, true), (9, true), (10, true)] (Ext W4) (by kernel_rfl) (by kernel_rfl) rfl mixed (Ext.drew W4) rfl ?_
        refine rd ?_
        have hll : (out.map inC).length = out.length := List.length_map ..
        refine dAd tb ?_
        refine dCallq c22 (fun w' _ _ => within_ok stop ((out.map inC).length + 1) w' (by omega) (by omega)) ?_
        refine rd ?_
        refine GM.nil ?_
        have h15 := h14.drew'
        have hb75 := hb74.to (Ext.drew W4)
        have hb85 := hb84.to (Ext.drew W4)
        have h45 : ∀ r ∈ rs, Df r W4.drew := fun r hr => (h44 r hr).to (Ext.drew W4)
        have hL5 := hL4.to (Ext.drew W4)
        have hz5 : W4.drew.heap.size = W4.heap.size := by simp
        generalize W4.drew = W5 at h15 hb75 hb85 h45 hL5 hz5 ⊢
        refine rn ?_
        first | refine G.condD rfl (fun hc => ?_) (fun hc => ?_) | refine G.condN rfl (fun hc => ?_) (fun hc => ?_) | refine G.cond rfl (fun hc => ?_) (fun hc => ?_)
        · refine rn ?_
          simp only [Bool.and_eq_true, decide_eq_true_eq] at hc
          exact G.exitOut rfl fun t _ => ⟨hL5, rfl, by omega, h15, hb75, h45, by omega, _, hb85⟩
        · refine rn ?_
          exact G.nil fun t _ => ⟨hL5, h15, hb75, hb85, h45, by omega, by omega⟩
    · rintro r W hr ⟨h1, h2, h3, h4, h5, h6⟩ hD
      have hs3 := hs6.to h1
      have hb53 := hb56.to h1
      rw [List.length_map] at h3
      refine rn ?_
      first | refine G.condD rfl (fun hc => ?_) (fun hc => ?_) | refine G.condN rfl (fun hc => ?_) (fun hc => ?_) | refine G.cond rfl (fun hc => ?_) (fun hc => ?_)
      · exfalso
        simp only [List.length_map, decide_true, Bool.not_true, Bool.and_false] at hc
        cases hc
      · clear hc
        refine rn ?_
        refine sAl tb ?_
        intro W4 hb9 hs9 hx9
        have h19 := h1.trans hx9
        have h49 : ∀ r ∈ rs, Df r W4 := fun r hr => (h4 r hr).to hx9
        have hD9 := hD.to hx9
        have hzr := hD.lt
        refine sSt tb ?_
        intro W5 hb9b hw9
        have h1a : Ext w6 W5 := Below.wr h19 hw9 (by omega)
        have h4a : ∀ r ∈ rs, Df r W5 := fun r hr => (h49 r hr).wr hb9 hw9
        have hDa := hD9.wr hb9 hw9
        clear hb9 hx9 h19 h49 hD9 hw9
        refine rn ?_
        refine sAd tb ?_
        refine sSt tb ?_
        intro W6 hb9c hw9
        have h1b : Ext w6 W6 := Below.wr h1a hw9 (by omega)
        have h4b : ∀ r ∈ rs, Df r W6 := fun r hr => (h4a r hr).wr hb9b hw9
        have hDb := hDa.wr hb9b hw9
        refine G.lpD (x := (kk, b7, rs)) (kk + 1, W.heap.size, r :: rs) rfl rfl (by repeat (first | exact Sub.nil _ | refine Sub.cons rfl ?_)) ⟨h1b, by simp only; omega, hb9c, h1.size, ?_, ?_⟩ (by simp only; omega)
        · intro r' hr'
          rcases List.mem_cons.1 hr' with rfl | hr'
          · exact ⟨hDb, by omega⟩
          · exact ⟨h4b r' hr', (hrs2 r' hr').2⟩
        · exact List.nodup_cons.2 ⟨fun hm => by have := hrlt r hm; omega, hnd⟩
    · rintro r c W hr ⟨rfl, hk0, h1, h2, h4, h5, n, h3⟩ hD
      have hs3 := hs6.to h1
      have hb53 := hb56.to h1
      refine rn ?_
      first | refine G.condD rfl (fun hc => ?_) (fun hc => ?_) | refine G.condN rfl (fun hc => ?_) (fun hc => ?_) | refine G.cond rfl (fun hc => ?_) (fun hc => ?_)
      · exfalso
        simp only [Bool.and_eq_true, decide_eq_true_eq] at hc
        omega
      · clear hc
        refine rn ?_
        refine sAl tb ?_
        intro W4 hb9 hs9 hx9
        have h19 := h1.trans hx9
        have h49 : ∀ r ∈ rs, Df r W4 := fun r hr => (h4 r hr).to hx9
        have hD9 := hD.to hx9
        have hzr := hD.lt
        refine sSt tb ?_
        intro W5 hb9b hw9
        have h1a : Ext w6 W5 := Below.wr h19 hw9 (by omega)
        have h4a : ∀ r ∈ rs, Df r W5 := fun r hr => (h49 r hr).wr hb9 hw9
        have hDa := hD9.wr hb9 hw9
        clear hb9 hx9 h19 h49 hD9 hw9
        refine rn ?_
        refine sAd tb ?_
        refine sSt tb ?_
        intro W6 hb9c hw9
        have h1b : Ext w6 W6 := Below.wr h1a hw9 (by omega)
        have h4b : ∀ r ∈ rs, Df r W6 := fun r hr => (h4a r hr).wr hb9b hw9
        have hDb := hDa.wr hb9b hw9
        refine G.lpD (x := (kk, b7, rs)) (kk + 1, W.heap.size, r :: rs) rfl rfl (by repeat (first | exact Sub.nil _ | refine Sub.cons rfl ?_)) ⟨h1b, by simp only; omega, hb9c, h1.size, ?_, ?_⟩ (by simp only; omega)
        · intro r' hr'
          rcases List.mem_cons.1 hr' with rfl | hr'
          · exact ⟨hDb, by omega⟩
          · exact ⟨h4b r' hr', (hrs2 r' hr').2⟩
        · exact List.nodup_cons.2 ⟨fun hm => by have := hrlt r hm; omega, hnd⟩
  · have hke : kk = 2 := by omega
    refine rn ?_
    refine sCall c13 (wakes_ok W (hT.to (hx06.trans hW))) ?_
    rintro _ W1 ⟨rfl, hx1⟩
    have hb4 := (hb46.to hW).to hx1
    have hrs1 : ∀ r ∈ rs, Df r W1 ∧ w6.heap.size ≤ r := fun r hr => ⟨(hrs r hr).1.to hx1, (hrs r hr).2⟩
    have hW1 := hW.trans hx1
    refine sSt tb ?_
    intro W2 hb4b hw4
    have hrs2 : ∀ r ∈ rs, Df r W2 := fun r hr => (hrs1 r hr).1.wr hb4 hw4
    have hx02 : Ext w W2 := Below.wr (hx06.trans hW1) hw4 (by omega)
    refine rn ?_
    refine G.retN rs rfl rfl hrs2 hnd fun t ht => ⟨_, resC1 ht rfl rfl (tb.ok _ _ rfl) rfl (hb4b.outs hrs2 hnd).cells.one, rfl, ?_⟩
    exact below_outs hx02 (fun r hr => by have := (hrs1 r hr).2; omega)
end Go.Proofs.YtbpkhgehchelhaaDoor
end
section
open Go Go.Vg Go.RowKit Go.Proofs Go.Proofs.YtbpkhgehchelhaaDoor
namespace Go.Proofs.YtbpkhgehchelhaaDoor
open Go.Lib Go.Shelf Go.ChangeShapes Go.WideShapes Go.ChangeAt

set_option maxRecDepth 100000 in
theorem contract_regexAll (H : Type) (enc : TypeId × Value → H) (W : World) (base : Nat) (args : Array Value) (ds gs : List (DataW H)) (before : List MemPlace)
    (hval : ∀ (j : Nat) t v, Tryd.f8.params[j]? = some t → args[j]? = some v → Value.okWide Tryd.prog W .any base t v)
    (hW : DataW.Whole enc Tryd.prog Tryd.f8.params.toList Rows.regexAllSpec.vars false W args.toList ds gs before) (hL : laidMetH Tryd.prog Rows.regexAllRow.laid W) :
    Calls Tryd.prog 8 args W fun e W' => ∃ v, e = .returned v ∧ Rows.regexAllSpec.post enc Tryd.prog Tryd.f8 false true false false W args v W' := by
  have hW' := hW
  obtain ⟨p, q, hA0, hV, rfl, hfz, hnd⟩ := hW
  have hA : DataW.TrodAll enc Tryd.prog W 0 (fun _ => true) true Tryd.f8.params.toList args.toList ds p := hA0
  rw [Tryd.params8] at hA hval
  obtain ⟨v0, vs0, d0, ds0, p0, q0, hargs, rfl, rfl, h0, r0⟩ := trodAll_cons hA
  obtain ⟨v1, vs1, d1, ds1, p1, q1, rfl, rfl, rfl, h1, r1⟩ := trodAll_cons r0
  obtain ⟨v2, vs2, d2, ds2, p2, q2, rfl, rfl, rfl, h2, r2⟩ := trodAll_cons r1
  obtain ⟨rfl, rfl, rfl⟩ := trodAll_nil r2
  obtain rfl : args = #[v0, v1, v2] := by cases args; simp_all
  have k0 := OkW.mk (hval 0 _ v0 rfl rfl)
  have k1 := OkW.mk (hval 1 _ v1 rfl rfl)
  have k2 := OkW.mk (hval 2 _ v2 rfl rfl)
  obtain ⟨s0, rfl, hs0⟩ := openS (tb.ok _ _ rfl) k0 h0
  obtain ⟨x1, hx1, hz1⟩ := open_strs k1 h1
  obtain ⟨n2, rfl, hn2⟩ := openI (tb.ok _ _ rfl) k2 h2
  refine Calls.mono (regAll_law s0 v1 x1 n2 W hs0 hx1 hz1 (tabs hL)) ?_
  rintro e W' ⟨v, rfl, rfl, hx⟩
  exact ⟨_, rfl, law_post laidOut (by kernel_rfl) (tb := 4) rfl (tb.ok _ _ rfl) rfl hW' rfl hx⟩
theorem reads_regexAll (os : Os) {H : Type} (enc : TypeId × Value → H) : ∃ places, DataW.whole enc Tryd.prog ((laidWorld os).forCall (fun _ _ => 0) ⟨#[], #[.string ⟨#[]⟩, .slice none 0 0, .int .i64 0], []⟩).memory Tryd.f8.params.toList Rows.regexAllSpec.vars false #[.string ⟨#[]⟩, .slice none 0 0, .int .i64 0].toList 8 = some ([.lit (.string []), .nil, .lit (.int .i64 0)], [], places) :=
  ⟨[], by kernel_rfl⟩
set_option maxRecDepth 100000 in
theorem lifted_regexAll (os : Os) (started : os.Started) (H : Type) (enc : TypeId × Value → H) (F : Stop.Interp) :
    ReturnsInHanded {} Tryd.checked os 8 .any ((OpenSpec.ofChange Rows.regexAllSpec).preRow enc Tryd.prog Tryd.f8 Rows.regexAllRow.domain false Rows.regexAllRow.laid) (((OpenSpec.ofChange Rows.regexAllSpec).at F).post enc Tryd.prog Tryd.f8 false true false false) := by
  obtain ⟨places, hx⟩ := reads_regexAll os enc
  refine returnsInHanded_of_row (C := Tryd.checked) (s := OpenSpec.ofChange Rows.regexAllSpec) own started (by kernel_rfl) Tryd.func8
    (witness_row_at (enc := enc) (C := Tryd.checked) false (laidWorld os) #[.string ⟨#[]⟩, .slice none 0 0, .int .i64 0] rfl (by kernel_rfl) (by kernel_rfl) (by kernel_rfl)
      (OpenSpec.preRow_of_cond 8 hx (by kernel_rfl) (fun k hk => by cases hk) (by kernel_rfl) (laid_met os _))) ?_
  intro W base args ds gs before hval hW _ _ _ hL _ _
  exact contract_regexAll H enc W base args ds gs before hval hW hL
theorem said_regexAll : Rows.RegexAllSaid :=
  OpenClaim.holds_of_cond 8 Tryd.f8 rfl rfl rfl rfl rfl rfl rfl ⟨rfl, rfl, rfl, rfl, rfl⟩ rfl rfl rfl rfl rfl (by kernel_rfl) Tryd.func8 (by kernel_rfl)
    (of_decide_eq_true (by kernel_rfl)) (by unfold Func.isWrapper; first | (rw [if_pos (by decide +kernel)]; kernel_rfl) | (rw [if_neg (by decide +kernel)]; exact ⟨rfl, rfl⟩))
    (fun os started H enc _ F => by rw [OpenClaim.pre_eq_preRow]; exact lifted_regexAll os started H enc F)
theorem plain_regexAll (f : FuncId) (fn : Func) (hf : Tryd.pinned.checked.prog.funcNamed "vigil/vigillaw04.RegexAll" = some f) (hfn : Tryd.pinned.checked.prog.funcs[f]? = some fn) :
    true = Tryd.pinned.checked.prog.looks [] ∧ ∀ (j : Nat) t, fn.params[j]? = some t → Tryd.pinned.checked.prog.wantsStandIn t = false := by
  obtain rfl : f = 8 := Option.some.inj ((show Tryd.prog.funcNamed "vigil/vigillaw04.RegexAll" = some 8 by kernel_rfl).symm.trans hf) |>.symm
  obtain rfl : fn = Tryd.f8 := (Option.some.inj (Tryd.func8.symm.trans hfn)).symm
  refine ⟨by kernel_rfl, fun j t ht => ?_⟩
  rw [Tryd.params8] at ht
  have hm : t ∈ #[9, 22, 3] := Array.mem_of_getElem? ht
  simp only [List.mem_toArray, List.mem_cons, List.not_mem_nil, or_false] at hm
  rcases hm with rfl | rfl | rfl
  · exact (show Tryd.prog.wantsStandIn 9 = false by kernel_rfl)
  · exact (show Tryd.prog.wantsStandIn 22 = false by kernel_rfl)
  · exact (show Tryd.prog.wantsStandIn 3 = false by kernel_rfl)
/-- RegexAll: whatever expression, texts and stop, the law of listings returns true and leaves what came in alone. -/
theorem RegexAll_holds : Rows.RegexAllCardSaid :=
  Claim7.holds_tied_plain_at .later [] _ _ _ _ said_regexAll (fun _ h => by cases h) (by kernel_rfl) (fun _ h => by cases h) regexAll_row_tie rfl ⟨rfl, rfl⟩ (by kernel_rfl) rfl plain_regexAll (by kernel_rfl)
end Go.Proofs.YtbpkhgehchelhaaDoor
end
