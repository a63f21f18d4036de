/- The reference's Labels, Row and List; web.List: walked. -/
import Derived.Test.YtlaingmhdgpkdaaGreatDoorZLb
open Go Go.Vg Go.RowKit Go.Proofs Go.Proofs.YtlaingmhdgpkdaaGreatDoor
namespace Go.Proofs.YtlaingmhdgpkdaaGreatDoor
set_option linter.unusedSimpArgs false

theorem Labs.atZ {ls : List Lab} {k : Nat} (h : k < ls.length) : ∃ x ∈ ls, (ls.map labC)[k]? = some (labC x) ∧ ls.take (k + 1) = ls.take k ++ [x] :=
  ⟨ls[k], List.getElem_mem h, by simp [h], List.take_succ_eq_append_getElem h⟩
theorem Strs.atZ {ts : List (List UInt8)} {k : Nat} (h : k < ts.length) : ∃ x ∈ ts, (ts.map strC)[k]? = some [S x] ∧ ts.take (k + 1) = ts.take k ++ [x] :=
  ⟨ts[k], List.getElem_mem h, by simp [h, strC], List.take_succ_eq_append_getElem h⟩
theorem take_nil_iff {α : Type} {ls : List α} {k : Nat} (h : k < ls.length) : ls.take k = [] ↔ k = 0 := by
  rw [List.take_eq_nil_iff]
  constructor
  · rintro (h | h)
    · exact h
    · subst h; simp at h
  · exact .inl
set_option maxHeartbeats 1000000 in
theorem refLabels_ok (v : Value) (ls : List Lab) (w : World) (hv : Labs w v ls) (hn : ls.length ≤ 20) (hz : ∀ x ∈ ls, x.1.length ≤ 2000000 ∧ x.2.length ≤ 2000000) :
    Ret Tryz.prog 20 ⟨[v]⟩ w fun r w' => r = S (labelsJ ls) ∧ Ext w w' := by
  have hjl := parts_len hz hn
  refine ret_of_G Tryz.func20 rfl Tryz.ntmps20 rfl ?_
  simp only [argEnv]
  try (first | refine gl tb ?_ | refine gg tb ?_ | refine ll tb ?_ | refine lg tb ?_); repeat ((first | refine G.condT rfl ?_ | refine G.condF rfl ?_ | refine sFa tb ?_ | refine sLd tb ?_ | refine sLa tb ?_ | refine sLen tb ?_ | refine sFd tb ?_ | refine sBd tb ?_ | refine sBa tb ?_); try (first | refine gl tb ?_ | refine gg tb ?_ | refine ll tb ?_ | refine lg tb ?_))
  refine (G.loop (fun x : Nat × List UInt8 => [(0, none, v), (3, none, S x.2), (4, none, .int .i64 x.1)]) (fun x W => Ext w W ∧ x.1 ≤ ls.length ∧ x.2 = [123] ++ joinL ((ls.take x.1).map partJ)) (fun x => ls.length - x.1) (0, [123]) (by repeat (first | exact Sub.nil _ | refine Sub.cons rfl ?_)) ⟨Ext.refl _, by simp, rfl⟩ ?_)
  rintro ⟨k, s⟩ W ⟨hx, hk, hs⟩
  simp only at hk hs ⊢
  have hvW := hv.to hx
  try (first | refine gl tb ?_ | refine gg tb ?_ | refine ll tb ?_ | refine lg tb ?_); repeat ((first | refine G.condT rfl ?_ | refine G.condF rfl ?_ | refine sFa tb ?_ | refine sLd tb ?_ | refine sLa tb ?_ | refine sLen tb ?_ | refine sFd tb ?_ | refine sBd tb ?_ | refine sBa tb ?_); try (first | refine gl tb ?_ | refine gg tb ?_ | refine ll tb ?_ | refine lg tb ?_))
  rw [List.length_map]
  try (first | refine gl tb ?_ | refine gg tb ?_ | refine ll tb ?_ | refine lg tb ?_); repeat ((first | refine G.condT rfl ?_ | refine G.condF rfl ?_ | refine sFa tb ?_ | refine sLd tb ?_ | refine sLa tb ?_ | refine sLen tb ?_ | refine sFd tb ?_ | refine sBd tb ?_ | refine sBa tb ?_); try (first | refine gl tb ?_ | refine gg tb ?_ | refine ll tb ?_ | refine lg tb ?_))
  first | refine G.condD rfl (fun hc => ?_) (fun hc => ?_) | refine G.condN rfl (fun hc => ?_) (fun hc => ?_) | refine G.cond rfl (fun hc => ?_) (fun hc => ?_)
  · have hlt : k < ls.length := by omega
    obtain ⟨x, hmem, hget, htk⟩ := Labs.atZ hlt
    have hxz := hz x hmem
    have h1 := quoteP_len x.1
    have h2 := quoteP_len x.2
    have hjk := parts_len (ls := ls.take k) (fun y hy => hz y (List.mem_of_mem_take hy)) (by rw [List.length_take]; omega)
    have hsl : s.length ≤ 500000001 := by rw [hs, List.length_append, List.length_cons, List.length_nil]; omega
    have hsn : joinL ((ls.take (k + 1)).map partJ) = if k = 0 then partJ x else joinL ((ls.take k).map partJ) ++ [44] ++ partJ x := by
      rw [htk, List.map_append, List.map_cons, List.map_nil, joinL_snoc]
      by_cases h0 : k = 0
      · subst h0; simp
      · rw [if_neg (by rw [List.map_eq_nil_iff, take_nil_iff hlt]; exact h0), if_neg h0]
    try (first | refine gl tb ?_ | refine gg tb ?_ | refine ll tb ?_ | refine lg tb ?_); repeat ((first | refine G.condT rfl ?_ | refine G.condF rfl ?_ | refine sFa tb ?_ | refine sLd tb ?_ | refine sLa tb ?_ | refine sLen tb ?_ | refine sFd tb ?_ | refine sBd tb ?_ | refine sBa tb ?_); try (first | refine gl tb ?_ | refine gg tb ?_ | refine ll tb ?_ | refine lg tb ?_))
    refine G.join (fun t : List UInt8 => [(0, none, v), (3, none, S t), (4, none, .int .i64 k)]) (fun t w' => w' = W ∧ t.length ≤ 500000002 ∧ t ++ partJ x = [123] ++ joinL ((ls.take (k + 1)).map partJ)) ?_ ?_
    · rintro t _ ⟨rfl, htl, ht⟩
      rename_i W0
      try (first | refine gl tb ?_ | refine gg tb ?_ | refine ll tb ?_ | refine lg tb ?_); repeat ((first | refine G.condT rfl ?_ | refine G.condF rfl ?_ | refine sFa tb ?_ | refine sLd tb ?_ | refine sLa tb ?_ | refine sLen tb ?_ | refine sFd tb ?_ | refine sBd tb ?_ | refine sBa tb ?_); try (first | refine gl tb ?_ | refine gg tb ?_ | refine ll tb ?_ | refine lg tb ?_))
      refine G.regionM [(0, true), (1, true), (2, true), (3, true), (4, true), (5, true), (9, true), (10, true), (11, true), (12, true), (13, true), (6, false), (7, true), (8, true), (14, false), (15, true), (16, true)] (Ext W0) (by kernel_rfl) (by kernel_rfl) rfl mixed (Ext.drew W0) rfl ?_
      have hvd := hv.to hx.drew'
      try (refine mm tb ?_); repeat ((first | refine dFa tb ?_ | refine dLd tb ?_ | refine dLa tb ?_ | refine dLen tb ?_ | refine dFd tb ?_ | refine dIa tb k ?_); try (refine mm tb ?_))
      refine GM.eff (Step.callF rfl rfl rfl c11 rfl (refQuote_ok x.1 _ hxz.1) ?_)
      rintro _ W1 ⟨rfl, hx1⟩
      have hx1 := (Ext.drew W0).trans hx1
      refine ⟨hx1, ?_⟩
      refine dCat tb ?_ (hk := fun _ => by omega)
      refine dCat tb ?_
      try (refine mm tb ?_); repeat ((first | refine dFa tb ?_ | refine dLd tb ?_ | refine dLa tb ?_ | refine dLen tb ?_ | refine dFd tb ?_ | refine dIa tb k ?_); try (refine mm tb ?_))
      refine GM.eff (Step.callF rfl rfl rfl c11 rfl (refQuote_ok x.2 _ hxz.2) ?_)
      rintro _ W2 ⟨rfl, hx2⟩
      have hx2 := hx1.trans hx2
      refine ⟨hx2, ?_⟩
      refine dCat tb ?_
      try (refine mm tb ?_); repeat ((first | refine dFa tb ?_ | refine dLd tb ?_ | refine dLa tb ?_ | refine dLen tb ?_ | refine dFd tb ?_); try (refine mm tb ?_))
      refine GM.nil ?_
      try (first | refine gl tb ?_ | refine gg tb ?_ | refine ll tb ?_ | refine lg tb ?_); repeat ((first | refine G.condT rfl ?_ | refine G.condF rfl ?_ | refine sFa tb ?_ | refine sLd tb ?_ | refine sLa tb ?_ | refine sLen tb ?_ | refine sFd tb ?_ | refine sBd tb ?_ | refine sBa tb ?_); try (first | refine gl tb ?_ | refine gg tb ?_ | refine ll tb ?_ | refine lg tb ?_))
      refine sAd tb ?_
      try (first | refine gl tb ?_ | refine gg tb ?_ | refine ll tb ?_ | refine lg tb ?_); repeat ((first | refine G.condT rfl ?_ | refine G.condF rfl ?_ | refine sFa tb ?_ | refine sLd tb ?_ | refine sLa tb ?_ | refine sLen tb ?_ | refine sFd tb ?_ | refine sBd tb ?_ | refine sBa tb ?_); try (first | refine gl tb ?_ | refine gg tb ?_ | refine ll tb ?_ | refine lg tb ?_))
      exact G.lp (x := (k, s)) (k + 1, _) (by repeat (first | exact Sub.nil _ | refine Sub.cons rfl ?_)) ⟨hx.trans hx2, by simp only; omega, by simp only; rw [← ht]; simp [partJ]⟩ (by simp only; omega)
    · first | refine G.condD rfl (fun hc => ?_) (fun hc => ?_) | refine G.condN rfl (fun hc => ?_) (fun hc => ?_) | refine G.cond rfl (fun hc => ?_) (fun hc => ?_)
      · have h0 : ¬ k = 0 := by omega
        rw [if_neg h0] at hsn
        try (first | refine gl tb ?_ | refine gg tb ?_ | refine ll tb ?_ | refine lg tb ?_); repeat ((first | refine G.condT rfl ?_ | refine G.condF rfl ?_ | refine sFa tb ?_ | refine sLd tb ?_ | refine sLa tb ?_ | refine sLen tb ?_ | refine sFd tb ?_ | refine sBd tb ?_ | refine sBa tb ?_); try (first | refine gl tb ?_ | refine gg tb ?_ | refine ll tb ?_ | refine lg tb ?_))
        refine sCat tb ?_
        try (first | refine gl tb ?_ | refine gg tb ?_ | refine ll tb ?_ | refine lg tb ?_); repeat ((first | refine G.condT rfl ?_ | refine G.condF rfl ?_ | refine sFa tb ?_ | refine sLd tb ?_ | refine sLa tb ?_ | refine sLen tb ?_ | refine sFd tb ?_ | refine sBd tb ?_ | refine sBa tb ?_); try (first | refine gl tb ?_ | refine gg tb ?_ | refine ll tb ?_ | refine lg tb ?_))
        exact G.met _ (by repeat (first | exact Sub.nil _ | refine Sub.cons rfl ?_)) ⟨rfl, by simp only [List.length_append, List.length_cons, List.length_nil]; omega, by rw [hsn, hs]; simp only [List.append_assoc]⟩
      · have h0 : k = 0 := by omega
        rw [if_pos h0] at hsn
        try (first | refine gl tb ?_ | refine gg tb ?_ | refine ll tb ?_ | refine lg tb ?_); repeat ((first | refine G.condT rfl ?_ | refine G.condF rfl ?_ | refine sFa tb ?_ | refine sLd tb ?_ | refine sLa tb ?_ | refine sLen tb ?_ | refine sFd tb ?_ | refine sBd tb ?_ | refine sBa tb ?_); try (first | refine gl tb ?_ | refine gg tb ?_ | refine ll tb ?_ | refine lg tb ?_))
        exact G.met s (by repeat (first | exact Sub.nil _ | refine Sub.cons rfl ?_)) ⟨rfl, by omega, by rw [hsn, hs]; subst h0; simp [joinL, Lib.join_nil]⟩
  · have hke : k = ls.length := by omega
    rw [hke, List.take_length] at hs
    have hsl : s.length ≤ 500000001 := by rw [hs, List.length_append, List.length_cons, List.length_nil]; omega
    try (first | refine gl tb ?_ | refine gg tb ?_ | refine ll tb ?_ | refine lg tb ?_); repeat ((first | refine G.condT rfl ?_ | refine G.condF rfl ?_ | refine sFa tb ?_ | refine sLd tb ?_ | refine sLa tb ?_ | refine sLen tb ?_ | refine sFd tb ?_ | refine sBd tb ?_ | refine sBa tb ?_); try (first | refine gl tb ?_ | refine gg tb ?_ | refine ll tb ?_ | refine lg tb ?_))
    refine sCat tb ?_
    try (first | refine gl tb ?_ | refine gg tb ?_ | refine ll tb ?_ | refine lg tb ?_); repeat ((first | refine G.condT rfl ?_ | refine G.condF rfl ?_ | refine sFa tb ?_ | refine sLd tb ?_ | refine sLa tb ?_ | refine sLen tb ?_ | refine sFd tb ?_ | refine sBd tb ?_ | refine sBa tb ?_); try (first | refine gl tb ?_ | refine gg tb ?_ | refine ll tb ?_ | refine lg tb ?_))
    refine G.ret1 rfl rfl rfl rfl ?_
    exact ⟨by rw [hs]; rfl, hx⟩
/-- a row of texts, one behind the other -/
theorem refRow_ok (v : Value) (ss : List (List UInt8)) (w : World) (hv : Strs w v ss) (hn : ss.length ≤ 20) (hz : ∀ x ∈ ss, x.length ≤ 24000005) :
    Ret Tryz.prog 40 ⟨[v]⟩ w fun r w' => r = S ([91] ++ joinL ss ++ [93]) ∧ w' = w := by
  have hjl := joinL_len hz
  have h2 := Nat.mul_le_mul_left (24000005 + 1) hn
  refine ret_of_G Tryz.func40 rfl Tryz.ntmps40 rfl ?_
  simp only [argEnv]
  try (first | refine gl tb ?_ | refine gg tb ?_ | refine ll tb ?_ | refine lg tb ?_); repeat ((first | refine G.condT rfl ?_ | refine G.condF rfl ?_ | refine sFa tb ?_ | refine sLd tb ?_ | refine sLa tb ?_ | refine sLen tb ?_ | refine sFd tb ?_ | refine sBd tb ?_ | refine sBa tb ?_); try (first | refine gl tb ?_ | refine gg tb ?_ | refine ll tb ?_ | refine lg tb ?_))
  refine (G.loop (fun x : Nat × List UInt8 => [(0, none, v), (3, none, S x.2), (4, none, .int .i64 x.1)]) (fun x W => W = w ∧ x.1 ≤ ss.length ∧ x.2 = [91] ++ joinL (ss.take x.1)) (fun x => ss.length - x.1) (0, [91]) (by repeat (first | exact Sub.nil _ | refine Sub.cons rfl ?_)) ⟨rfl, by simp, rfl⟩ ?_)
  rintro ⟨k, s⟩ W ⟨rfl, hk, hs⟩
  simp only at hk hs ⊢
  try (first | refine gl tb ?_ | refine gg tb ?_ | refine ll tb ?_ | refine lg tb ?_); repeat ((first | refine G.condT rfl ?_ | refine G.condF rfl ?_ | refine sFa tb ?_ | refine sLd tb ?_ | refine sLa tb ?_ | refine sLen tb ?_ | refine sFd tb ?_ | refine sBd tb ?_ | refine sBa tb ?_); try (first | refine gl tb ?_ | refine gg tb ?_ | refine ll tb ?_ | refine lg tb ?_))
  rw [List.length_map]
  try (first | refine gl tb ?_ | refine gg tb ?_ | refine ll tb ?_ | refine lg tb ?_); repeat ((first | refine G.condT rfl ?_ | refine G.condF rfl ?_ | refine sFa tb ?_ | refine sLd tb ?_ | refine sLa tb ?_ | refine sLen tb ?_ | refine sFd tb ?_ | refine sBd tb ?_ | refine sBa tb ?_); try (first | refine gl tb ?_ | refine gg tb ?_ | refine ll tb ?_ | refine lg tb ?_))
  first | refine G.condD rfl (fun hc => ?_) (fun hc => ?_) | refine G.condN rfl (fun hc => ?_) (fun hc => ?_) | refine G.cond rfl (fun hc => ?_) (fun hc => ?_)
  · have hlt : k < ss.length := by omega
    obtain ⟨x, hmem, hget, htk⟩ := Strs.atZ hlt
    have hxz := hz x hmem
    have hjk := joinL_len (ss := ss.take k) (fun y hy => hz y (List.mem_of_mem_take hy))
    have h3 := Nat.mul_le_mul_left (24000005 + 1) (show (ss.take k).length ≤ 20 by rw [List.length_take]; omega)
    have hsl : s.length ≤ 500000001 := by rw [hs, List.length_append, List.length_cons, List.length_nil]; omega
    have hsn : joinL (ss.take (k + 1)) = if k = 0 then x else joinL (ss.take k) ++ [44] ++ x := by
      rw [htk, joinL_snoc]
      by_cases h0 : k = 0
      · subst h0; simp
      · rw [if_neg (by rw [take_nil_iff hlt]; exact h0), if_neg h0]
    try (first | refine gl tb ?_ | refine gg tb ?_ | refine ll tb ?_ | refine lg tb ?_); repeat ((first | refine G.condT rfl ?_ | refine G.condF rfl ?_ | refine sFa tb ?_ | refine sLd tb ?_ | refine sLa tb ?_ | refine sLen tb ?_ | refine sFd tb ?_ | refine sBd tb ?_ | refine sBa tb ?_); try (first | refine gl tb ?_ | refine gg tb ?_ | refine ll tb ?_ | refine lg tb ?_))
    refine G.join (fun t : List UInt8 => [(0, none, v), (3, none, S t), (4, none, .int .i64 k)]) (fun t w' => w' = W ∧ t.length ≤ 500000002 ∧ t ++ x = [91] ++ joinL (ss.take (k + 1))) ?_ ?_
    · rintro t _ ⟨rfl, htl, ht⟩
      try (first | refine gl tb ?_ | refine gg tb ?_ | refine ll tb ?_ | refine lg tb ?_); repeat ((first | refine G.condT rfl ?_ | refine G.condF rfl ?_ | refine sFa tb ?_ | refine sLd tb ?_ | refine sLa tb ?_ | refine sLen tb ?_ | refine sFd tb ?_ | refine sBd tb ?_ | refine sIa tb k ?_); try (first | refine gl tb ?_ | refine gg tb ?_ | refine ll tb ?_ | refine lg tb ?_))
      refine sCat tb ?_ (hk := fun _ => by omega)
      try (first | refine gl tb ?_ | refine gg tb ?_ | refine ll tb ?_ | refine lg tb ?_); repeat ((first | refine G.condT rfl ?_ | refine G.condF rfl ?_ | refine sFa tb ?_ | refine sLd tb ?_ | refine sLa tb ?_ | refine sLen tb ?_ | refine sFd tb ?_ | refine sBd tb ?_ | refine sBa tb ?_); try (first | refine gl tb ?_ | refine gg tb ?_ | refine ll tb ?_ | refine lg tb ?_))
      refine sAd tb ?_
      try (first | refine gl tb ?_ | refine gg tb ?_ | refine ll tb ?_ | refine lg tb ?_); repeat ((first | refine G.condT rfl ?_ | refine G.condF rfl ?_ | refine sFa tb ?_ | refine sLd tb ?_ | refine sLa tb ?_ | refine sLen tb ?_ | refine sFd tb ?_ | refine sBd tb ?_ | refine sBa tb ?_); try (first | refine gl tb ?_ | refine gg tb ?_ | refine ll tb ?_ | refine lg tb ?_))
      exact G.lp (x := (k, s)) (k + 1, _) (by repeat (first | exact Sub.nil _ | refine Sub.cons rfl ?_)) ⟨rfl, by simp only; omega, by simp only; rw [← ht]⟩ (by simp only; omega)
    · first | refine G.condD rfl (fun hc => ?_) (fun hc => ?_) | refine G.condN rfl (fun hc => ?_) (fun hc => ?_) | refine G.cond rfl (fun hc => ?_) (fun hc => ?_)
      · have h0 : ¬ k = 0 := by omega
        rw [if_neg h0] at hsn
        try (first | refine gl tb ?_ | refine gg tb ?_ | refine ll tb ?_ | refine lg tb ?_); repeat ((first | refine G.condT rfl ?_ | refine G.condF rfl ?_ | refine sFa tb ?_ | refine sLd tb ?_ | refine sLa tb ?_ | refine sLen tb ?_ | refine sFd tb ?_ | refine sBd tb ?_ | refine sBa tb ?_); try (first | refine gl tb ?_ | refine gg tb ?_ | refine ll tb ?_ | refine lg tb ?_))
        refine sCat tb ?_
        try (first | refine gl tb ?_ | refine gg tb ?_ | refine ll tb ?_ | refine lg tb ?_); repeat ((first | refine G.condT rfl ?_ | refine G.condF rfl ?_ | refine sFa tb ?_ | refine sLd tb ?_ | refine sLa tb ?_ | refine sLen tb ?_ | refine sFd tb ?_ | refine sBd tb ?_ | refine sBa tb ?_); try (first | refine gl tb ?_ | refine gg tb ?_ | refine ll tb ?_ | refine lg tb ?_))
        exact G.met _ (by repeat (first | exact Sub.nil _ | refine Sub.cons rfl ?_)) ⟨rfl, by simp only [List.length_append, List.length_cons, List.length_nil]; omega, by rw [hsn, hs]; simp only [List.append_assoc]⟩
      · have h0 : k = 0 := by omega
        rw [if_pos h0] at hsn
        try (first | refine gl tb ?_ | refine gg tb ?_ | refine ll tb ?_ | refine lg tb ?_); repeat ((first | refine G.condT rfl ?_ | refine G.condF rfl ?_ | refine sFa tb ?_ | refine sLd tb ?_ | refine sLa tb ?_ | refine sLen tb ?_ | refine sFd tb ?_ | refine sBd tb ?_ | refine sBa tb ?_); try (first | refine gl tb ?_ | refine gg tb ?_ | refine ll tb ?_ | refine lg tb ?_))
        exact G.met s (by repeat (first | exact Sub.nil _ | refine Sub.cons rfl ?_)) ⟨rfl, by omega, by rw [hsn, hs]; subst h0; simp [joinL, Lib.join_nil]⟩
  · have hke : k = ss.length := by omega
    rw [hke, List.take_length] at hs
    have hsl : s.length ≤ 500000001 := by rw [hs, List.length_append, List.length_cons, List.length_nil]; omega
    try (first | refine gl tb ?_ | refine gg tb ?_ | refine ll tb ?_ | refine lg tb ?_); repeat ((first | refine G.condT rfl ?_ | refine G.condF rfl ?_ | refine sFa tb ?_ | refine sLd tb ?_ | refine sLa tb ?_ | refine sLen tb ?_ | refine sFd tb ?_ | refine sBd tb ?_ | refine sBa tb ?_); try (first | refine gl tb ?_ | refine gg tb ?_ | refine ll tb ?_ | refine lg tb ?_))
    refine sCat tb ?_
    try (first | refine gl tb ?_ | refine gg tb ?_ | refine ll tb ?_ | refine lg tb ?_); repeat ((first | refine G.condT rfl ?_ | refine G.condF rfl ?_ | refine sFa tb ?_ | refine sLd tb ?_ | refine sLa tb ?_ | refine sLen tb ?_ | refine sFd tb ?_ | refine sBd tb ?_ | refine sBa tb ?_); try (first | refine gl tb ?_ | refine gg tb ?_ | refine ll tb ?_ | refine lg tb ?_))
    refine G.ret1 rfl rfl rfl rfl ?_
    exact ⟨by rw [hs], rfl⟩
end Go.Proofs.YtlaingmhdgpkdaaGreatDoor
