/- laws: cut, anchored, cuts. -/
import Derived.Test.YtbpkhgehchelhaaDoorRUv
import Derived.Test.YtbpkhgehchelhaaDoorGR1
open Go Go.Vg Go.RowKit Go.Proofs Go.Proofs.YtbpkhgehchelhaaDoor
namespace Go.Proofs.YtbpkhgehchelhaaDoor
set_option linter.unusedSimpArgs false

def strC (s : List UInt8) : List Value := [S s]
def cutL (ss : List (List UInt8)) : List (List UInt8) := (ss.take 12).map (·.take 60)
theorem cutL_len {ss : List (List UInt8)} {x : List UInt8} (h : x ∈ cutL ss) : x.length ≤ 60 := by
  unfold cutL at h
  obtain ⟨y, _, rfl⟩ := List.mem_map.1 h
  rw [List.length_take]; omega
theorem cut_ok (v : Value) (ss : List (List UInt8)) (w : World) (hv : Sli w v 1 (ss.map strC)) (hz : ∀ x ∈ ss, x.length ≤ 9223372036854775807) :
    Ret Tryd.prog 14 ⟨[v]⟩ w fun r w' => Ext w w' ∧ Owns w' w.heap.size r 9 1 ((cutL ss).map strC) := by
  have hbd : ss.length ≤ 9223372036854775807 := by have := Sli.bound hv; simpa using this
  refine ret_of_G Tryd.func14 rfl Tryd.ntmps14 rfl ?_
  simp only [argEnv]
  try (first | refine gl tb ?_ | refine gg tb ?_ | refine ll tb ?_ | refine lg tb ?_); repeat ((first | refine G.condT rfl ?_ | refine G.condF rfl ?_ | refine sFa tb ?_ | refine sLd tb ?_ | refine sLa tb ?_ | refine sLen tb ?_ | refine sFd tb ?_ | refine sBd tb ?_ | refine sBa tb ?_); try (first | refine gl tb ?_ | refine gg tb ?_ | refine ll tb ?_ | refine lg tb ?_))
  refine (G.loop (fun x : Nat × Value => [(0, none, v), (3, none, x.2), (4, none, .int .i64 x.1)]) (fun x W => Ext w W ∧ Owns W w.heap.size x.2 9 1 (((ss.take x.1).map (·.take 60)).map strC) ∧ x.1 ≤ ss.length ∧ x.1 ≤ 12) (fun x => 12 - x.1) (0, nilV) (by repeat (first | exact Sub.nil _ | refine Sub.cons rfl ?_)) ⟨Ext.refl _, Owns.nil _ _ _ _, Nat.zero_le _, Nat.zero_le _⟩ ?_)
  rintro ⟨i, o⟩ W ⟨hx, ho, hi, hi2⟩
  simp only at ho hi hi2
  show G _ _ [(0, none, v), (3, none, o), (4, none, .int .i64 i)] W
  have hvW := hv.to hx
  have hll : (ss.map strC).length = ss.length := by simp
  try (first | refine gl tb ?_ | refine gg tb ?_ | refine ll tb ?_ | refine lg tb ?_); repeat ((first | refine G.condT rfl ?_ | refine G.condF rfl ?_ | refine sFa tb ?_ | refine sLd tb ?_ | refine sLa tb ?_ | refine sLen tb ?_ | refine sFd tb ?_ | refine sBd tb ?_ | refine sBa tb ?_); try (first | refine gl tb ?_ | refine gg tb ?_ | refine ll tb ?_ | refine lg tb ?_))
  rw [hll]
  try (first | refine gl tb ?_ | refine gg tb ?_ | refine ll tb ?_ | refine lg tb ?_); repeat ((first | refine G.condT rfl ?_ | refine G.condF rfl ?_ | refine sFa tb ?_ | refine sLd tb ?_ | refine sLa tb ?_ | refine sLen tb ?_ | refine sFd tb ?_ | refine sBd tb ?_ | refine sBa tb ?_); try (first | refine gl tb ?_ | refine gg tb ?_ | refine ll tb ?_ | refine lg tb ?_))
  first | refine G.condD rfl (fun hc => ?_) (fun hc => ?_) | refine G.condN rfl (fun hc => ?_) (fun hc => ?_) | refine G.cond rfl (fun hc => ?_) (fun hc => ?_)
  · have hlt : i < ss.length ∧ i < 12 := by
      simp only [Bool.and_eq_true, decide_eq_true_eq] at hc
      omega
    have hget : (ss.map strC)[i]? = some [S ss[i]] := by rw [List.getElem?_map, List.getElem?_eq_getElem hlt.1]; rfl
    have hzi := hz ss[i] (List.getElem_mem hlt.1)
    have htk : ss.take (i + 1) = ss.take i ++ [ss[i]] := by rw [List.take_succ_eq_append_getElem hlt.1]
    generalize ss[i] = s at hget hzi htk
    try (first | refine gl tb ?_ | refine gg tb ?_ | refine ll tb ?_ | refine lg tb ?_); repeat ((first | refine G.condT rfl ?_ | refine G.condF rfl ?_ | refine sFa tb ?_ | refine sLd tb ?_ | refine sLa tb ?_ | refine sLen tb ?_ | refine sFd tb ?_ | refine sBd tb ?_ | refine sBa tb ?_); try (first | refine gl tb ?_ | refine gg tb ?_ | refine ll tb ?_ | refine lg tb ?_))
    refine sIa tb i ?_ (hj := fun _ => ⟨rfl, by rw [hll]; exact hlt.1⟩)
    try (first | refine gl tb ?_ | refine gg tb ?_ | refine ll tb ?_ | refine lg tb ?_); repeat ((first | refine G.condT rfl ?_ | refine G.condF rfl ?_ | refine sFa tb ?_ | refine sLd tb ?_ | refine sLa tb ?_ | refine sLen tb ?_ | refine sFd tb ?_ | refine sBd tb ?_ | refine sBa tb ?_); try (first | refine gl tb ?_ | refine gg tb ?_ | refine ll tb ?_ | refine lg tb ?_))
    refine sCall c28 (clip_ok s W hzi) ?_
    rintro _ _ ⟨rfl, rfl⟩
    try (first | refine gl tb ?_ | refine gg tb ?_ | refine ll tb ?_ | refine lg tb ?_); repeat ((first | refine G.condT rfl ?_ | refine G.condF rfl ?_ | refine sFa tb ?_ | refine sLd tb ?_ | refine sLa tb ?_ | refine sLen tb ?_ | refine sFd tb ?_ | refine sBd tb ?_ | refine sBa tb ?_); try (first | refine gl tb ?_ | refine gg tb ?_ | refine ll tb ?_ | refine lg tb ?_))
    refine sBs' tb [strC (s.take 60)] (fun u W2 ho2 hs2 hx2 => ?_) (hkl := by simp [strC])
    try (first | refine gl tb ?_ | refine gg tb ?_ | refine ll tb ?_ | refine lg tb ?_); repeat ((first | refine G.condT rfl ?_ | refine G.condF rfl ?_ | refine sFa tb ?_ | refine sLd tb ?_ | refine sLa tb ?_ | refine sLen tb ?_ | refine sFd tb ?_ | refine sBd tb ?_ | refine sBa tb ?_); try (first | refine gl tb ?_ | refine gg tb ?_ | refine ll tb ?_ | refine lg tb ?_))
    have hol : (((ss.take i).map (·.take 60)).map strC).length ≤ 12 := by simp; omega
    have hsz := hx.size
    refine GL.cons (Step.append2 tb rfl (Op1.of rfl (by first | exact fun _ => rfl | exact fun h => h | exact fun h => bL h | exact fun h => bL (bL h) | exact fun h => bL (bL (bL h)))) (Op1.of rfl (by first | exact fun _ => rfl | exact fun h => h | exact fun h => bL h | exact fun h => bL (bL h) | exact fun h => bL (bL (bL h)))) rfl rfl rfl (by rfl) (ho.to hx2) (ho2.sli) (by intro y hy c hc; simp only [List.mem_cons, List.not_mem_nil, or_false] at hy; subst hy; simp only [strC, List.mem_cons, List.not_mem_nil, or_false] at hc; subst hc; rfl) (by simp only [List.length_map, List.length_append, List.length_cons, List.length_nil, List.length_take, List.length_drop]; omega) (by simp only [List.length_map, List.length_append, List.length_cons, List.length_nil, List.length_take, List.length_drop]; omega) (Nat.le_trans hsz hx2.size) rfl ?_)
    intro o3 W3 ho3 hg3 _
    try (first | refine gl tb ?_ | refine gg tb ?_ | refine ll tb ?_ | refine lg tb ?_); repeat ((first | refine G.condT rfl ?_ | refine G.condF rfl ?_ | refine sFa tb ?_ | refine sLd tb ?_ | refine sLa tb ?_ | refine sLen tb ?_ | refine sFd tb ?_ | refine sBd tb ?_ | refine sBa tb ?_); try (first | refine gl tb ?_ | refine gg tb ?_ | refine ll tb ?_ | refine lg tb ?_))
    refine sAd tb (r := ((i + 1 : Nat) : Int)) ?_
    try (first | refine gl tb ?_ | refine gg tb ?_ | refine ll tb ?_ | refine lg tb ?_); repeat ((first | refine G.condT rfl ?_ | refine G.condF rfl ?_ | refine sFa tb ?_ | refine sLd tb ?_ | refine sLa tb ?_ | refine sLen tb ?_ | refine sFd tb ?_ | refine sBd tb ?_ | refine sBa tb ?_); try (first | refine gl tb ?_ | refine gg tb ?_ | refine ll tb ?_ | refine lg tb ?_))
    refine G.lp (x := (i, o)) (i + 1, o3) (by repeat (first | exact Sub.nil _ | refine Sub.cons rfl ?_)) ⟨hg3.ext0 (hx.trans hx2), ?_, by simp only; omega, by simp only; omega⟩ (by simp only; omega)
    simp only
    rw [htk, List.map_append, List.map_append]
    exact ho3
  · have hge : ss.length ≤ i ∨ 12 ≤ i := by
      simp only [Bool.and_eq_false_iff, decide_eq_false_iff_not] at hc
      omega
    try (first | refine gl tb ?_ | refine gg tb ?_ | refine ll tb ?_ | refine lg tb ?_); repeat ((first | refine G.condT rfl ?_ | refine G.condF rfl ?_ | refine sFa tb ?_ | refine sLd tb ?_ | refine sLa tb ?_ | refine sLen tb ?_ | refine sFd tb ?_ | refine sBd tb ?_ | refine sBa tb ?_); try (first | refine gl tb ?_ | refine gg tb ?_ | refine ll tb ?_ | refine lg tb ?_))
    refine G.ret1 rfl rfl rfl rfl ?_
    refine ⟨hx, ?_⟩
    unfold cutL
    rcases hge with h | h
    · rw [List.take_of_length_le (show ss.length ≤ 12 by omega)]
      rw [List.take_of_length_le h] at ho
      exact ho
    · have : i = 12 := by omega
      subst this
      exact ho
theorem anch_take {s : List UInt8} {i : Nat} (h : i < s.length) : Rx.anch (s.take (i + 1)) = (Rx.anch (s.take i) || (decide (s.getD i 0 = 94) || decide (s.getD i 0 = 36))) := by
  unfold Rx.anch
  rw [List.take_succ_eq_append_getElem h, List.any_append, List.getD_eq_getElem?_getD, List.getElem?_eq_getElem h]
  simp
theorem anchored_ok (s : List UInt8) (w : World) (hs : s.length ≤ 1000) :
    Ret Tryd.prog 20 ⟨[S s]⟩ w fun r w' => r = .bool (Rx.anch s) ∧ Ext w w' := by
  refine ret_of_G Tryd.func20 rfl Tryd.ntmps20 rfl ?_
  simp only [argEnv]
  try (first | refine gl tb ?_ | refine gg tb ?_ | refine ll tb ?_ | refine lg tb ?_); repeat ((first | refine G.condT rfl ?_ | refine G.condF rfl ?_ | refine sFa tb ?_ | refine sLd tb ?_ | refine sLa tb ?_ | refine sLen tb ?_ | refine sFd tb ?_ | refine sBd tb ?_ | refine sBa tb ?_); try (first | refine gl tb ?_ | refine gg tb ?_ | refine ll tb ?_ | refine lg tb ?_))
  refine (G.loop (fun i : Nat => [(0, none, S s), (3, none, .int .i64 i)]) (fun i W => Ext w W ∧ i ≤ s.length ∧ Rx.anch (s.take i) = false) (fun i => s.length - i) 0 (by repeat (first | exact Sub.nil _ | refine Sub.cons rfl ?_)) ⟨Ext.refl _, Nat.zero_le _, rfl⟩ ?_)
  rintro i W ⟨hx, hi, hn⟩
  try (first | refine gl tb ?_ | refine gg tb ?_ | refine ll tb ?_ | refine lg tb ?_); repeat ((first | refine G.condT rfl ?_ | refine G.condF rfl ?_ | refine sFa tb ?_ | refine sLd tb ?_ | refine sLa tb ?_ | refine sLen tb ?_ | refine sFd tb ?_ | refine sBd tb ?_ | refine sBa tb ?_); try (first | refine gl tb ?_ | refine gg tb ?_ | refine ll tb ?_ | refine lg tb ?_))
  first | refine G.condD rfl (fun hc => ?_) (fun hc => ?_) | refine G.condN rfl (fun hc => ?_) (fun hc => ?_) | refine G.cond rfl (fun hc => ?_) (fun hc => ?_)
  · have hlt : i < s.length := by omega
    have ht := anch_take hlt
    rw [hn, Bool.false_or] at ht
    try (first | refine gl tb ?_ | refine gg tb ?_ | refine ll tb ?_ | refine lg tb ?_); repeat ((first | refine G.condT rfl ?_ | refine G.condF rfl ?_ | refine sFa tb ?_ | refine sLd tb ?_ | refine sLa tb ?_ | refine sLen tb ?_ | refine sFd tb ?_ | refine sBd tb ?_ | refine sBa tb ?_); try (first | refine gl tb ?_ | refine gg tb ?_ | refine ll tb ?_ | refine lg tb ?_))
    refine sBs tb i ?_
    try (first | refine gl tb ?_ | refine gg tb ?_ | refine ll tb ?_ | refine lg tb ?_); repeat ((first | refine G.condT rfl ?_ | refine G.condF rfl ?_ | refine sFa tb ?_ | refine sLd tb ?_ | refine sLa tb ?_ | refine sLen tb ?_ | refine sFd tb ?_ | refine sBd tb ?_ | refine sBa tb ?_); try (first | refine gl tb ?_ | refine gg tb ?_ | refine ll tb ?_ | refine lg tb ?_))
    refine sBs tb i ?_
    try (first | refine gl tb ?_ | refine gg tb ?_ | refine ll tb ?_ | refine lg tb ?_); repeat ((first | refine G.condT rfl ?_ | refine G.condF rfl ?_ | refine sFa tb ?_ | refine sLd tb ?_ | refine sLa tb ?_ | refine sLen tb ?_ | refine sFd tb ?_ | refine sBd tb ?_ | refine sBa tb ?_); try (first | refine gl tb ?_ | refine gg tb ?_ | refine ll tb ?_ | refine lg tb ?_))
    have e94 : ((s.getD i 0).toNat : Int) = 94 ↔ s.getD i 0 = 94 := by
      rw [← UInt8.toNat_inj, show (94 : UInt8).toNat = 94 from rfl]; omega
    have e36 : ((s.getD i 0).toNat : Int) = 36 ↔ s.getD i 0 = 36 := by
      rw [← UInt8.toNat_inj, show (36 : UInt8).toNat = 36 from rfl]; omega
    rw [decide_eq_decide.2 e94, decide_eq_decide.2 e36, ← ht]
    first | refine G.condD rfl (fun hc => ?_) (fun hc => ?_) | refine G.condN rfl (fun hc => ?_) (fun hc => ?_) | refine G.cond rfl (fun hc => ?_) (fun hc => ?_)
    · have hc : Rx.anch (s.take (i + 1)) = true := hc
      try (first | refine gl tb ?_ | refine gg tb ?_ | refine ll tb ?_ | refine lg tb ?_); repeat ((first | refine G.condT rfl ?_ | refine G.condF rfl ?_ | refine sFa tb ?_ | refine sLd tb ?_ | refine sLa tb ?_ | refine sLen tb ?_ | refine sFd tb ?_ | refine sBd tb ?_ | refine sBa tb ?_); try (first | refine gl tb ?_ | refine gg tb ?_ | refine ll tb ?_ | refine lg tb ?_))
      refine G.ret1 rfl rfl rfl rfl ?_
      refine ⟨?_, hx⟩
      have : Rx.anch s = true := by
        unfold Rx.anch at hc ⊢
        obtain ⟨x, hx, hp⟩ := List.any_eq_true.1 hc
        exact List.any_eq_true.2 ⟨x, List.take_subset _ _ hx, hp⟩
      rw [this]
    · have hc : Rx.anch (s.take (i + 1)) = false := hc
      try (first | refine gl tb ?_ | refine gg tb ?_ | refine ll tb ?_ | refine lg tb ?_); repeat ((first | refine G.condT rfl ?_ | refine G.condF rfl ?_ | refine sFa tb ?_ | refine sLd tb ?_ | refine sLa tb ?_ | refine sLen tb ?_ | refine sFd tb ?_ | refine sBd tb ?_ | refine sBa tb ?_); try (first | refine gl tb ?_ | refine gg tb ?_ | refine ll tb ?_ | refine lg tb ?_))
      refine sAd tb (r := ((i + 1 : Nat) : Int)) ?_
      try (first | refine gl tb ?_ | refine gg tb ?_ | refine ll tb ?_ | refine lg tb ?_); repeat ((first | refine G.condT rfl ?_ | refine G.condF rfl ?_ | refine sFa tb ?_ | refine sLd tb ?_ | refine sLa tb ?_ | refine sLen tb ?_ | refine sFd tb ?_ | refine sBd tb ?_ | refine sBa tb ?_); try (first | refine gl tb ?_ | refine gg tb ?_ | refine ll tb ?_ | refine lg tb ?_))
      exact G.lp (x := i) (i + 1) (by repeat (first | exact Sub.nil _ | refine Sub.cons rfl ?_)) ⟨hx, by omega, hc⟩ (by omega)
  · have hie : i = s.length := by omega
    subst hie
    try (first | refine gl tb ?_ | refine gg tb ?_ | refine ll tb ?_ | refine lg tb ?_); repeat ((first | refine G.condT rfl ?_ | refine G.condF rfl ?_ | refine sFa tb ?_ | refine sLd tb ?_ | refine sLa tb ?_ | refine sLen tb ?_ | refine sFd tb ?_ | refine sBd tb ?_ | refine sBa tb ?_); try (first | refine gl tb ?_ | refine gg tb ?_ | refine ll tb ?_ | refine lg tb ?_))
    refine G.ret1 rfl rfl rfl rfl ?_
    rw [List.take_length] at hn
    exact ⟨by rw [hn], hx⟩
/-- a character's bytes, as the reference has them: the same -/
theorem u8_dec {s : List UInt8} {i : Nat} (hi : i < s.length) : (if u8len s i = 0 then 1 else u8len s i) = (Rx.dec s i).2 := by
  rw [u8len_N s i hi]
  unfold Rx.dec
  rcases u8N_decode (s.length - i) (s.getD i 0).toNat (s.getD (i + 1) 0).toNat (s.getD (i + 2) 0).toNat (s.getD (i + 3) 0).toNat with ⟨h1, h2⟩ | ⟨h1, h2, _⟩
  · rw [h1, h2]; rfl
  · rw [if_neg h1, h2]
set_option maxHeartbeats 2000000 in
theorem cuts_ok (w : World) (pb qb : Nat) (tp tq : Rx.T) (gp gq : Nat) (s : List UInt8) (hT : Tabs w) (hp : Exp w pb tp gp) (hq : Exp w qb tq gq) (hs : s.length ≤ 60) :
    Ret Tryd.prog 21 ⟨[ptr pb, ptr qb, S s]⟩ w fun r w' => r = .bool (Rx.cutsB (Rx.mt tp gp) (Rx.mt tq gq) s (s.length + 1) 0) ∧ Ext w w' := by
  refine ret_of_G Tryd.func21 rfl Tryd.ntmps21 rfl ?_
  simp only [argEnv]
  try (first | refine gl tb ?_ | refine gg tb ?_ | refine ll tb ?_ | refine lg tb ?_); repeat ((first | refine G.condT rfl ?_ | refine G.condF rfl ?_ | refine sFa tb ?_ | refine sLd tb ?_ | refine sLa tb ?_ | refine sLen tb ?_ | refine sFd tb ?_ | refine sBd tb ?_ | refine sBa tb ?_); try (first | refine gl tb ?_ | refine gg tb ?_ | refine ll tb ?_ | refine lg tb ?_))
  refine (G.loop (fun x : Nat × Nat => [(0, none, ptr pb), (1, none, ptr qb), (2, none, S s), (7, none, .int .i64 x.2)]) (fun x W => Ext w W ∧ x.2 ≤ s.length ∧ s.length - x.2 < x.1 ∧ Rx.cutsB (Rx.mt tp gp) (Rx.mt tq gq) s x.1 x.2 = Rx.cutsB (Rx.mt tp gp) (Rx.mt tq gq) s (s.length + 1) 0) (fun x => x.1) (s.length + 1, 0) (by repeat (first | exact Sub.nil _ | refine Sub.cons rfl ?_)) ⟨Ext.refl _, Nat.zero_le _, by simp only; omega, rfl⟩ ?_)
  rintro ⟨n, i⟩ W ⟨hx, hi, hn, hL⟩
  simp only at hi hn hL
  show G _ _ [(0, none, ptr pb), (1, none, ptr qb), (2, none, S s), (7, none, .int .i64 i)] W
  obtain ⟨n, rfl⟩ : ∃ m, n = m + 1 := ⟨n - 1, by omega⟩
  rw [Rx.cutsB, if_neg (by omega)] at hL
  try (first | refine gl tb ?_ | refine gg tb ?_ | refine ll tb ?_ | refine lg tb ?_); repeat ((first | refine G.condT rfl ?_ | refine G.condF rfl ?_ | refine sFa tb ?_ | refine sLd tb ?_ | refine sLa tb ?_ | refine sLen tb ?_ | refine sFd tb ?_ | refine sBd tb ?_ | refine sBa tb ?_); try (first | refine gl tb ?_ | refine gg tb ?_ | refine ll tb ?_ | refine lg tb ?_))
  first | refine G.condD rfl (fun hc => ?_) (fun hc => ?_) | refine G.condN rfl (fun hc => ?_) (fun hc => ?_) | refine G.cond rfl (fun hc => ?_) (fun hc => ?_)
  rotate_left
  · exfalso; omega
  clear hc
  try (first | refine gl tb ?_ | refine gg tb ?_ | refine ll tb ?_ | refine lg tb ?_); repeat ((first | refine G.condT rfl ?_ | refine G.condF rfl ?_ | refine sFa tb ?_ | refine sLd tb ?_ | refine sLa tb ?_ | refine sLen tb ?_ | refine sFd tb ?_ | refine sBd tb ?_ | refine sBa tb ?_); try (first | refine gl tb ?_ | refine gg tb ?_ | refine ll tb ?_ | refine lg tb ?_))
  refine GL.cons (Step.sliceSh tb i rfl (Op1.of rfl (by first | exact fun _ => rfl | exact fun h => h | exact fun h => bL h | exact fun h => bL (bL h) | exact fun h => bL (bL (bL h)))) (Op1.of rfl (by first | exact fun _ => rfl | exact fun h => h | exact fun h => bL h | exact fun h => bL (bL h) | exact fun h => bL (bL (bL h)))) rfl (fun _ => ⟨rfl, hi⟩) rfl ?_)
  try (first | refine gl tb ?_ | refine gg tb ?_ | refine ll tb ?_ | refine lg tb ?_); repeat ((first | refine G.condT rfl ?_ | refine G.condF rfl ?_ | refine sFa tb ?_ | refine sLd tb ?_ | refine sLa tb ?_ | refine sLen tb ?_ | refine sFd tb ?_ | refine sBd tb ?_ | refine sBa tb ?_); try (first | refine gl tb ?_ | refine gg tb ?_ | refine ll tb ?_ | refine lg tb ?_))
  refine sCall c18 (match_ok W pb tp gp (s.take i) (hT.to hx) (hp.to hx) (by rw [List.length_take]; omega)) ?_
  rintro _ W2 ⟨rfl, hx2⟩
  try (first | refine gl tb ?_ | refine gg tb ?_ | refine ll tb ?_ | refine lg tb ?_); repeat ((first | refine G.condT rfl ?_ | refine G.condF rfl ?_ | refine sFa tb ?_ | refine sLd tb ?_ | refine sLa tb ?_ | refine sLen tb ?_ | refine sFd tb ?_ | refine sBd tb ?_ | refine sBa tb ?_); try (first | refine gl tb ?_ | refine gg tb ?_ | refine ll tb ?_ | refine lg tb ?_))
  refine GL.cons (Step.sliceSl tb i rfl (Op1.of rfl (by first | exact fun _ => rfl | exact fun h => h | exact fun h => bL h | exact fun h => bL (bL h) | exact fun h => bL (bL (bL h)))) (Op1.of rfl (by first | exact fun _ => rfl | exact fun h => h | exact fun h => bL h | exact fun h => bL (bL h) | exact fun h => bL (bL (bL h)))) rfl (fun _ => ⟨rfl, hi⟩) rfl ?_)
  try (first | refine gl tb ?_ | refine gg tb ?_ | refine ll tb ?_ | refine lg tb ?_); repeat ((first | refine G.condT rfl ?_ | refine G.condF rfl ?_ | refine sFa tb ?_ | refine sLd tb ?_ | refine sLa tb ?_ | refine sLen tb ?_ | refine sFd tb ?_ | refine sBd tb ?_ | refine sBa tb ?_); try (first | refine gl tb ?_ | refine gg tb ?_ | refine ll tb ?_ | refine lg tb ?_))
  refine sCallx c18 (fun hc => match_ok W2 qb tq gq (s.drop i) (hT.to (hx.trans hx2)) (hq.to (hx.trans hx2)) (by rw [List.length_drop]; omega)) ?_
  intro W3 hx3
  have hx13 := (hx.trans hx2).trans hx3
  try (first | refine gl tb ?_ | refine gg tb ?_ | refine ll tb ?_ | refine lg tb ?_); repeat ((first | refine G.condT rfl ?_ | refine G.condF rfl ?_ | refine sFa tb ?_ | refine sLd tb ?_ | refine sLa tb ?_ | refine sLen tb ?_ | refine sFd tb ?_ | refine sBd tb ?_ | refine sBa tb ?_); try (first | refine gl tb ?_ | refine gg tb ?_ | refine ll tb ?_ | refine lg tb ?_))
  first | refine G.condD rfl (fun hc => ?_) (fun hc => ?_) | refine G.condN rfl (fun hc => ?_) (fun hc => ?_) | refine G.cond rfl (fun hc => ?_) (fun hc => ?_)
  · have hc : (Rx.mt tp gp (s.take i) && Rx.mt tq gq (s.drop i)) = true := hc
    rw [if_pos hc] at hL
    try (first | refine gl tb ?_ | refine gg tb ?_ | refine ll tb ?_ | refine lg tb ?_); repeat ((first | refine G.condT rfl ?_ | refine G.condF rfl ?_ | refine sFa tb ?_ | refine sLd tb ?_ | refine sLa tb ?_ | refine sLen tb ?_ | refine sFd tb ?_ | refine sBd tb ?_ | refine sBa tb ?_); try (first | refine gl tb ?_ | refine gg tb ?_ | refine ll tb ?_ | refine lg tb ?_))
    refine G.ret1 rfl rfl rfl rfl ?_
    exact ⟨by rw [← hL], hx13⟩
  · have hc : ¬ (Rx.mt tp gp (s.take i) && Rx.mt tq gq (s.drop i)) = true := by
      have hc : (Rx.mt tp gp (s.take i) && Rx.mt tq gq (s.drop i)) = false := hc
      rw [hc]; exact Bool.false_ne_true
    rw [if_neg hc] at hL
    try (first | refine gl tb ?_ | refine gg tb ?_ | refine ll tb ?_ | refine lg tb ?_); repeat ((first | refine G.condT rfl ?_ | refine G.condF rfl ?_ | refine sFa tb ?_ | refine sLd tb ?_ | refine sLa tb ?_ | refine sLen tb ?_ | refine sFd tb ?_ | refine sBd tb ?_ | refine sBa tb ?_); try (first | refine gl tb ?_ | refine gg tb ?_ | refine ll tb ?_ | refine lg tb ?_))
    first | refine G.condD rfl (fun hc => ?_) (fun hc => ?_) | refine G.condN rfl (fun hc => ?_) (fun hc => ?_) | refine G.cond rfl (fun hc => ?_) (fun hc => ?_)
    · have hce : i = s.length := by omega
      rw [if_pos hce] at hL
      try (first | refine gl tb ?_ | refine gg tb ?_ | refine ll tb ?_ | refine lg tb ?_); repeat ((first | refine G.condT rfl ?_ | refine G.condF rfl ?_ | refine sFa tb ?_ | refine sLd tb ?_ | refine sLa tb ?_ | refine sLen tb ?_ | refine sFd tb ?_ | refine sBd tb ?_ | refine sBa tb ?_); try (first | refine gl tb ?_ | refine gg tb ?_ | refine ll tb ?_ | refine lg tb ?_))
      refine G.ret1 rfl rfl rfl rfl ?_
      exact ⟨by rw [← hL], hx13⟩
    · have hce : ¬ i = s.length := by omega
      rw [if_neg hce] at hL
      have hlt : i < s.length := by omega
      have hdp := Rx.dec_pos s i
      have hdl := Rx.dec_le hlt
      have hud := u8_dec hlt
      try (first | refine gl tb ?_ | refine gg tb ?_ | refine ll tb ?_ | refine lg tb ?_); repeat ((first | refine G.condT rfl ?_ | refine G.condF rfl ?_ | refine sFa tb ?_ | refine sLd tb ?_ | refine sLa tb ?_ | refine sLen tb ?_ | refine sFd tb ?_ | refine sBd tb ?_ | refine sBa tb ?_); try (first | refine gl tb ?_ | refine gg tb ?_ | refine ll tb ?_ | refine lg tb ?_))
      refine sCall c23 (utf8_ok s i W3 (by omega) hlt) ?_
      rintro _ _ ⟨rfl, rfl⟩
      generalize u8len s i = u at hud
      generalize Rx.dec s i = dd at hud hdp hdl hL
      try (first | refine gl tb ?_ | refine gg tb ?_ | refine ll tb ?_ | refine lg tb ?_); repeat ((first | refine G.condT rfl ?_ | refine G.condF rfl ?_ | refine sFa tb ?_ | refine sLd tb ?_ | refine sLa tb ?_ | refine sLen tb ?_ | refine sFd tb ?_ | refine sBd tb ?_ | refine sBa tb ?_); try (first | refine gl tb ?_ | refine gg tb ?_ | refine ll tb ?_ | refine lg tb ?_))
      first | refine G.condD rfl (fun hc => ?_) (fun hc => ?_) | refine G.condN rfl (fun hc => ?_) (fun hc => ?_) | refine G.cond rfl (fun hc => ?_) (fun hc => ?_)
      · have hu0 : u = 0 := by omega
        rw [if_pos hu0] at hud
        try (first | refine gl tb ?_ | refine gg tb ?_ | refine ll tb ?_ | refine lg tb ?_); repeat ((first | refine G.condT rfl ?_ | refine G.condF rfl ?_ | refine sFa tb ?_ | refine sLd tb ?_ | refine sLa tb ?_ | refine sLen tb ?_ | refine sFd tb ?_ | refine sBd tb ?_ | refine sBa tb ?_); try (first | refine gl tb ?_ | refine gg tb ?_ | refine ll tb ?_ | refine lg tb ?_))
        refine sAd tb (r := ((i + 1 : Nat) : Int)) ?_
        try (first | refine gl tb ?_ | refine gg tb ?_ | refine ll tb ?_ | refine lg tb ?_); repeat ((first | refine G.condT rfl ?_ | refine G.condF rfl ?_ | refine sFa tb ?_ | refine sLd tb ?_ | refine sLa tb ?_ | refine sLen tb ?_ | refine sFd tb ?_ | refine sBd tb ?_ | refine sBa tb ?_); try (first | refine gl tb ?_ | refine gg tb ?_ | refine ll tb ?_ | refine lg tb ?_))
        exact G.lp (x := (n + 1, i)) (n, i + 1) (by repeat (first | exact Sub.nil _ | refine Sub.cons rfl ?_)) ⟨hx13, by simp only; omega, by simp only; omega, by rw [← hL, ← hud]⟩ (by simp only; omega)
      · have hu0 : ¬ u = 0 := by omega
        rw [if_neg hu0] at hud
        try (first | refine gl tb ?_ | refine gg tb ?_ | refine ll tb ?_ | refine lg tb ?_); repeat ((first | refine G.condT rfl ?_ | refine G.condF rfl ?_ | refine sFa tb ?_ | refine sLd tb ?_ | refine sLa tb ?_ | refine sLen tb ?_ | refine sFd tb ?_ | refine sBd tb ?_ | refine sBa tb ?_); try (first | refine gl tb ?_ | refine gg tb ?_ | refine ll tb ?_ | refine lg tb ?_))
        refine sAd tb (r := ((i + u : Nat) : Int)) ?_
        try (first | refine gl tb ?_ | refine gg tb ?_ | refine ll tb ?_ | refine lg tb ?_); repeat ((first | refine G.condT rfl ?_ | refine G.condF rfl ?_ | refine sFa tb ?_ | refine sLd tb ?_ | refine sLa tb ?_ | refine sLen tb ?_ | refine sFd tb ?_ | refine sBd tb ?_ | refine sBa tb ?_); try (first | refine gl tb ?_ | refine gg tb ?_ | refine ll tb ?_ | refine lg tb ?_))
        exact G.lp (x := (n + 1, i)) (n, i + u) (by repeat (first | exact Sub.nil _ | refine Sub.cons rfl ?_)) ⟨hx13, by simp only; omega, by simp only; omega, by rw [← hL, ← hud]⟩ (by simp only; omega)
end Go.Proofs.YtbpkhgehchelhaaDoor
