/- regex: things, walked, where what stands in a bracket is. -/
import Derived.Test.YtbpkhgehchelhaaDoorRJ
open Go Go.Vg Go.RowKit Go.Proofs Go.Proofs.YtbpkhgehchelhaaDoor
namespace Go.Proofs.YtbpkhgehchelhaaDoor
set_option linter.unusedSimpArgs false

set_option maxHeartbeats 4000000 in
theorem thing_ok (n : Nat) (hA : AltC n) : ThingC (n + 1) := by
  intro w rb s i g h hn
  have hbx := h.bx
  have hsz := h.hs
  have hi := h.hi
  have hgi := h.hg
  unfold rdC at hbx
  rw [Rx.parse_thing]
  refine ret_of_GP Tryd.func89 rfl Tryd.ntmps89 rfl ?_
  simp only [argEnv]
  try (first | refine gl tb ?_ | refine gg tb ?_ | refine ll tb ?_ | refine lg tb ?_); repeat ((first | refine G.condT rfl ?_ | refine G.condF rfl ?_ | refine sFa tb ?_ | refine sLd tb ?_ | refine sLa tb ?_ | refine sLen tb ?_ | refine sFd tb ?_ | refine sBd tb ?_ | refine sBa tb ?_); try (first | refine gl tb ?_ | refine gg tb ?_ | refine ll tb ?_ | refine lg tb ?_))
  refine sCallP c94 (char_ok w rb s i g h) (fun ch w' hz => px_P rfl rfl ?_) ?_
  · exact ⟨i, if_neg hz.1, hz.2.1, hz.2.2⟩
  rintro _ W ⟨hlt, rfl, hr, hk⟩
  rw [if_pos hlt]
  have hm := Rx.dec_max s i
  have hp := Rx.dec_pos s i
  have hle := Rx.dec_le hlt
  generalize (Rx.dec s i).1 = c at hm ⊢
  generalize hj : i + (Rx.dec s i).2 = j at hr hle
  have hij : i < j := by omega
  clear hbx
  try (first | refine gl tb ?_ | refine gg tb ?_ | refine ll tb ?_ | refine lg tb ?_); repeat ((first | refine G.condT rfl ?_ | refine G.condF rfl ?_ | refine sFa tb ?_ | refine sLd tb ?_ | refine sLa tb ?_ | refine sLen tb ?_ | refine sFd tb ?_ | refine sBd tb ?_ | refine sBa tb ?_); try (first | refine gl tb ?_ | refine gg tb ?_ | refine ll tb ?_ | refine lg tb ?_))
  first | refine G.condD rfl (fun hc => ?_) (fun hc => ?_) | refine G.condN rfl (fun hc => ?_) (fun hc => ?_) | refine G.cond rfl (fun hc => ?_) (fun hc => ?_)
  · obtain rfl : c = 46 := by omega
    try (first | refine gl tb ?_ | refine gg tb ?_ | refine ll tb ?_ | refine lg tb ?_); repeat ((first | refine G.condT rfl ?_ | refine G.condF rfl ?_ | refine sFa tb ?_ | refine sLd tb ?_ | refine sLa tb ?_ | refine sLen tb ?_ | refine sFd tb ?_ | refine sBd tb ?_ | refine sBa tb ?_); try (first | refine gl tb ?_ | refine gg tb ?_ | refine ll tb ?_ | refine lg tb ?_))
    refine sBox (fun W1 hb1 hs1 hx1 => ?_)
    try (first | refine gl tb ?_ | refine gg tb ?_ | refine ll tb ?_ | refine lg tb ?_); repeat ((first | refine G.condT rfl ?_ | refine G.condF rfl ?_ | refine sFa tb ?_ | refine sLd tb ?_ | refine sLa tb ?_ | refine sLen tb ?_ | refine sFd tb ?_ | refine sBd tb ?_ | refine sBa tb ?_); try (first | refine gl tb ?_ | refine gg tb ?_ | refine ll tb ?_ | refine lg tb ?_))
    refine G.retP1 rfl rfl rfl rfl ?_
    exact ⟨.set [] true, j, g, rfl, .mk W.heap.size nilV nilV [] hk.size hb1 (RowA.nil _ _ _ _) (by simp [TrB, spansT, Small, numT, mnT, mxT]) (RowA.nil _ _ _ _) rfl (fun i t' u h1 => by simp [kidsT] at h1), hr.to hx1, hk.trans hx1.kp, hij⟩
  try (first | refine gl tb ?_ | refine gg tb ?_ | refine ll tb ?_ | refine lg tb ?_); repeat ((first | refine G.condT rfl ?_ | refine G.condF rfl ?_ | refine sFa tb ?_ | refine sLd tb ?_ | refine sLa tb ?_ | refine sLen tb ?_ | refine sFd tb ?_ | refine sBd tb ?_ | refine sBa tb ?_); try (first | refine gl tb ?_ | refine gg tb ?_ | refine ll tb ?_ | refine lg tb ?_))
  first | refine G.condD rfl (fun hc => ?_) (fun hc => ?_) | refine G.condN rfl (fun hc => ?_) (fun hc => ?_) | refine G.cond rfl (fun hc => ?_) (fun hc => ?_)
  · obtain rfl : c = 94 := by omega
    try (first | refine gl tb ?_ | refine gg tb ?_ | refine ll tb ?_ | refine lg tb ?_); repeat ((first | refine G.condT rfl ?_ | refine G.condF rfl ?_ | refine sFa tb ?_ | refine sLd tb ?_ | refine sLa tb ?_ | refine sLen tb ?_ | refine sFd tb ?_ | refine sBd tb ?_ | refine sBa tb ?_); try (first | refine gl tb ?_ | refine gg tb ?_ | refine ll tb ?_ | refine lg tb ?_))
    refine sBox (fun W1 hb1 hs1 hx1 => ?_)
    try (first | refine gl tb ?_ | refine gg tb ?_ | refine ll tb ?_ | refine lg tb ?_); repeat ((first | refine G.condT rfl ?_ | refine G.condF rfl ?_ | refine sFa tb ?_ | refine sLd tb ?_ | refine sLa tb ?_ | refine sLen tb ?_ | refine sFd tb ?_ | refine sBd tb ?_ | refine sBa tb ?_); try (first | refine gl tb ?_ | refine gg tb ?_ | refine ll tb ?_ | refine lg tb ?_))
    refine G.retP1 rfl rfl rfl rfl ?_
    exact ⟨.bos, j, g, rfl, .mk W.heap.size nilV nilV [] hk.size hb1 (RowA.nil _ _ _ _) (by simp [TrB, spansT, Small, numT, mnT, mxT]) (RowA.nil _ _ _ _) rfl (fun i t' u h1 => by simp [kidsT] at h1), hr.to hx1, hk.trans hx1.kp, hij⟩
  try (first | refine gl tb ?_ | refine gg tb ?_ | refine ll tb ?_ | refine lg tb ?_); repeat ((first | refine G.condT rfl ?_ | refine G.condF rfl ?_ | refine sFa tb ?_ | refine sLd tb ?_ | refine sLa tb ?_ | refine sLen tb ?_ | refine sFd tb ?_ | refine sBd tb ?_ | refine sBa tb ?_); try (first | refine gl tb ?_ | refine gg tb ?_ | refine ll tb ?_ | refine lg tb ?_))
  first | refine G.condD rfl (fun hc => ?_) (fun hc => ?_) | refine G.condN rfl (fun hc => ?_) (fun hc => ?_) | refine G.cond rfl (fun hc => ?_) (fun hc => ?_)
  · obtain rfl : c = 36 := by omega
    try (first | refine gl tb ?_ | refine gg tb ?_ | refine ll tb ?_ | refine lg tb ?_); repeat ((first | refine G.condT rfl ?_ | refine G.condF rfl ?_ | refine sFa tb ?_ | refine sLd tb ?_ | refine sLa tb ?_ | refine sLen tb ?_ | refine sFd tb ?_ | refine sBd tb ?_ | refine sBa tb ?_); try (first | refine gl tb ?_ | refine gg tb ?_ | refine ll tb ?_ | refine lg tb ?_))
    refine sBox (fun W1 hb1 hs1 hx1 => ?_)
    try (first | refine gl tb ?_ | refine gg tb ?_ | refine ll tb ?_ | refine lg tb ?_); repeat ((first | refine G.condT rfl ?_ | refine G.condF rfl ?_ | refine sFa tb ?_ | refine sLd tb ?_ | refine sLa tb ?_ | refine sLen tb ?_ | refine sFd tb ?_ | refine sBd tb ?_ | refine sBa tb ?_); try (first | refine gl tb ?_ | refine gg tb ?_ | refine ll tb ?_ | refine lg tb ?_))
    refine G.retP1 rfl rfl rfl rfl ?_
    exact ⟨.eos, j, g, rfl, .mk W.heap.size nilV nilV [] hk.size hb1 (RowA.nil _ _ _ _) (by simp [TrB, spansT, Small, numT, mnT, mxT]) (RowA.nil _ _ _ _) rfl (fun i t' u h1 => by simp [kidsT] at h1), hr.to hx1, hk.trans hx1.kp, hij⟩
  try (first | refine gl tb ?_ | refine gg tb ?_ | refine ll tb ?_ | refine lg tb ?_); repeat ((first | refine G.condT rfl ?_ | refine G.condF rfl ?_ | refine sFa tb ?_ | refine sLd tb ?_ | refine sLa tb ?_ | refine sLen tb ?_ | refine sFd tb ?_ | refine sBd tb ?_ | refine sBa tb ?_); try (first | refine gl tb ?_ | refine gg tb ?_ | refine ll tb ?_ | refine lg tb ?_))
  first | refine G.condD rfl (fun hc => ?_) (fun hc => ?_) | refine G.condN rfl (fun hc => ?_) (fun hc => ?_) | refine G.cond rfl (fun hc => ?_) (fun hc => ?_)
  · obtain rfl : c = 91 := by omega
    try (first | refine gl tb ?_ | refine gg tb ?_ | refine ll tb ?_ | refine lg tb ?_); repeat ((first | refine G.condT rfl ?_ | refine G.condF rfl ?_ | refine sFa tb ?_ | refine sLd tb ?_ | refine sLa tb ?_ | refine sLen tb ?_ | refine sFd tb ?_ | refine sBd tb ?_ | refine sBa tb ?_); try (first | refine gl tb ?_ | refine gg tb ?_ | refine ll tb ?_ | refine lg tb ?_))
    refine sCallP c95 (class_ok W rb s j g hr) (fun ch w' hz => px_P rfl rfl ?_) ?_
    · obtain ⟨e, he, hw, hk2⟩ := hz
      exact ⟨e, by rw [he]; rfl, hw, hk.trans hk2⟩
    rintro v W1 ⟨t, a, hE, hja, hT, hr1, hk1⟩
    try (first | refine gl tb ?_ | refine gg tb ?_ | refine ll tb ?_ | refine lg tb ?_); repeat ((first | refine G.condT rfl ?_ | refine G.condF rfl ?_ | refine sFa tb ?_ | refine sLd tb ?_ | refine sLa tb ?_ | refine sLen tb ?_ | refine sFd tb ?_ | refine sBd tb ?_ | refine sBa tb ?_); try (first | refine gl tb ?_ | refine gg tb ?_ | refine ll tb ?_ | refine lg tb ?_))
    refine G.retP1 rfl rfl rfl rfl ?_
    exact ⟨t, a, g, by rw [hE]; rfl, hT.same fun b hb hA => ⟨rfl, Nat.le_trans hk.size hA⟩, hr1, hk.trans hk1, by omega⟩
  try (first | refine gl tb ?_ | refine gg tb ?_ | refine ll tb ?_ | refine lg tb ?_); repeat ((first | refine G.condT rfl ?_ | refine G.condF rfl ?_ | refine sFa tb ?_ | refine sLd tb ?_ | refine sLa tb ?_ | refine sLen tb ?_ | refine sFd tb ?_ | refine sBd tb ?_ | refine sBa tb ?_); try (first | refine gl tb ?_ | refine gg tb ?_ | refine ll tb ?_ | refine lg tb ?_))
  first | refine G.condD rfl (fun hc => ?_) (fun hc => ?_) | refine G.condN rfl (fun hc => ?_) (fun hc => ?_) | refine G.cond rfl (fun hc => ?_) (fun hc => ?_)
  · obtain rfl : c = 40 := by omega
    try (first | refine gl tb ?_ | refine gg tb ?_ | refine ll tb ?_ | refine lg tb ?_); repeat ((first | refine G.condT rfl ?_ | refine G.condF rfl ?_ | refine sFa tb ?_ | refine sLd tb ?_ | refine sLa tb ?_ | refine sLen tb ?_ | refine sFd tb ?_ | refine sBd tb ?_ | refine sBa tb ?_); try (first | refine gl tb ?_ | refine gg tb ?_ | refine ll tb ?_ | refine lg tb ?_))
    refine sCallP c96 (bracket_ok n hA W rb s j g hr (by omega) (by simp only [Rx.need] at hn ⊢; omega)) (fun ch w' hz => px_P rfl rfl ?_) ?_
    · obtain ⟨e, he, hw, hk2⟩ := hz
      exact ⟨e, by simpa using he, hw, hk.trans hk2⟩
    rintro v W1 ⟨t, a, g', hE, hT, hr1, hk1, hja⟩
    try (first | refine gl tb ?_ | refine gg tb ?_ | refine ll tb ?_ | refine lg tb ?_); repeat ((first | refine G.condT rfl ?_ | refine G.condF rfl ?_ | refine sFa tb ?_ | refine sLd tb ?_ | refine sLa tb ?_ | refine sLen tb ?_ | refine sFd tb ?_ | refine sBd tb ?_ | refine sBa tb ?_); try (first | refine gl tb ?_ | refine gg tb ?_ | refine ll tb ?_ | refine lg tb ?_))
    refine G.retP1 rfl rfl rfl rfl ?_
    exact ⟨t, a, g', by simpa using hE, hT.same fun b hb hA => ⟨rfl, Nat.le_trans hk.size hA⟩, hr1, hk.trans hk1, by omega⟩
  try (first | refine gl tb ?_ | refine gg tb ?_ | refine ll tb ?_ | refine lg tb ?_); repeat ((first | refine G.condT rfl ?_ | refine G.condF rfl ?_ | refine sFa tb ?_ | refine sLd tb ?_ | refine sLa tb ?_ | refine sLen tb ?_ | refine sFd tb ?_ | refine sBd tb ?_ | refine sBa tb ?_); try (first | refine gl tb ?_ | refine gg tb ?_ | refine ll tb ?_ | refine lg tb ?_))
  first | refine G.condD rfl (fun hc => ?_) (fun hc => ?_) | refine G.condN rfl (fun hc => ?_) (fun hc => ?_) | refine G.cond rfl (fun hc => ?_) (fun hc => ?_)
  · obtain rfl : c = 92 := by omega
    try (first | refine gl tb ?_ | refine gg tb ?_ | refine ll tb ?_ | refine lg tb ?_); repeat ((first | refine G.condT rfl ?_ | refine G.condF rfl ?_ | refine sFa tb ?_ | refine sLd tb ?_ | refine sLa tb ?_ | refine sLen tb ?_ | refine sFd tb ?_ | refine sBd tb ?_ | refine sBa tb ?_); try (first | refine gl tb ?_ | refine gg tb ?_ | refine ll tb ?_ | refine lg tb ?_))
    refine sCallP c97 (escape_ok W rb s j g hr) (fun ch w' hz => px_P rfl rfl ?_) ?_
    · obtain ⟨e, he, hw, hk2⟩ := hz
      exact ⟨e, by rw [he]; rfl, hw, hk.trans hk2⟩
    rintro _ W1 ⟨l, neg, a, v, hE, rfl, hjl, hja, hv, hne, hll, hsm, hr1, hk1⟩
    obtain ⟨va, vc, hve, _⟩ := hv.sli.len
    subst hve
    try (first | refine gl tb ?_ | refine gg tb ?_ | refine ll tb ?_ | refine lg tb ?_); repeat ((first | refine G.condT rfl ?_ | refine G.condF rfl ?_ | refine sFa tb ?_ | refine sLd tb ?_ | refine sLa tb ?_ | refine sLen tb ?_ | refine sFd tb ?_ | refine sBd tb ?_ | refine sBa tb ?_); try (first | refine gl tb ?_ | refine gg tb ?_ | refine ll tb ?_ | refine lg tb ?_))
    refine sBox (fun W2 hb2 hs2 hx2 => ?_)
    try (first | refine gl tb ?_ | refine gg tb ?_ | refine ll tb ?_ | refine lg tb ?_); repeat ((first | refine G.condT rfl ?_ | refine G.condF rfl ?_ | refine sFa tb ?_ | refine sLd tb ?_ | refine sLa tb ?_ | refine sLen tb ?_ | refine sFd tb ?_ | refine sBd tb ?_ | refine sBa tb ?_); try (first | refine gl tb ?_ | refine gg tb ?_ | refine ll tb ?_ | refine lg tb ?_))
    refine G.retP1 rfl rfl rfl rfl ?_
    have hs1 := hk1.size
    have hs0 := hk.size
    exact ⟨.set l neg, a, g, by rw [hE]; rfl, .mk W1.heap.size _ nilV [] (by show w.heap.size ≤ _; omega) hb2 ⟨(hv.to hx2).mono (Nat.zero_le _), fun q e => by have := (hv.lt q e).1; show w.heap.size ≤ q; omega⟩ ⟨hsm, by simp [numT, mnT, mxT]⟩ (RowA.nil _ _ _ _) rfl (fun i t' u h1 => by simp [kidsT] at h1), hr1.to hx2, (hk.trans hk1).trans hx2.kp, by omega⟩
  try (first | refine gl tb ?_ | refine gg tb ?_ | refine ll tb ?_ | refine lg tb ?_); repeat ((first | refine G.condT rfl ?_ | refine G.condF rfl ?_ | refine sFa tb ?_ | refine sLd tb ?_ | refine sLa tb ?_ | refine sLen tb ?_ | refine sFd tb ?_ | refine sBd tb ?_ | refine sBa tb ?_); try (first | refine gl tb ?_ | refine gg tb ?_ | refine ll tb ?_ | refine lg tb ?_))
  refine sCall c98 (cr_ok [92, 46, 43, 42, 63, 40, 41, 124, 91, 93, 123, 125, 94, 36] c hm (by decide) (by decide) W) ?_
  rintro _ W1 ⟨rfl, hx1⟩
  have hmk : (([92, 46, 43, 42, 63, 40, 41, 124, 91, 93, 123, 125, 94, 36] : List UInt8).map (·.toNat)) = Rx.marks := by decide
  rw [hmk]
  have hr1 := hr.to hx1
  have hk1 := hk.trans hx1.kp
  have hE : ∀ R : Except Nat (Rx.T × Nat × Nat), (if Rx.marks.contains c = true then .error i else .ok (.set [(c, c)] false, j, g)) = R → (if c = 46 then .ok (.set [] true, j, g) else if c = 94 then .ok (.bos, j, g) else if c = 36 then .ok (.eos, j, g)
       else if c = 91 then (match Rx.cls s j with | .error e => .error e | .ok (t, b) => .ok (t, b, g))
       else if c = 40 then Rx.brk s n j g
       else if c = 92 then (match Rx.escape s j with | .error e => .error e | .ok ((l, neg), b) => .ok (.set l neg, b, g))
       else if Rx.marks.contains c then .error i else .ok (.set [(c, c)] false, j, g)) = R := fun R hR => by
    rw [if_neg (by omega), if_neg (by omega), if_neg (by omega), if_neg (by omega), if_neg (by omega), if_neg (by omega)]; exact hR
  try (first | refine gl tb ?_ | refine gg tb ?_ | refine ll tb ?_ | refine lg tb ?_); repeat ((first | refine G.condT rfl ?_ | refine G.condF rfl ?_ | refine sFa tb ?_ | refine sLd tb ?_ | refine sLa tb ?_ | refine sLen tb ?_ | refine sFd tb ?_ | refine sBd tb ?_ | refine sBa tb ?_); try (first | refine gl tb ?_ | refine gg tb ?_ | refine ll tb ?_ | refine lg tb ?_))
  first | refine G.condD rfl (fun hc => ?_) (fun hc => ?_) | refine G.condN rfl (fun hc => ?_) (fun hc => ?_) | refine G.cond rfl (fun hc => ?_) (fun hc => ?_)
  · have hc1 : Rx.marks.contains c = true := hc
    try (first | refine gl tb ?_ | refine gg tb ?_ | refine ll tb ?_ | refine lg tb ?_); repeat ((first | refine G.condT rfl ?_ | refine G.condF rfl ?_ | refine sFa tb ?_ | refine sLd tb ?_ | refine sLa tb ?_ | refine sLen tb ?_ | refine sFd tb ?_ | refine sBd tb ?_ | refine sBa tb ?_); try (first | refine gl tb ?_ | refine gg tb ?_ | refine ll tb ?_ | refine lg tb ?_))
    refine sCallP c56 (fail_ok rb i W1) (fun ch w' hz => px_P rfl rfl ?_) ?_
    · exact Bad.mk (hE _ (if_pos hc1)) hz hk1
    · rintro _ _ ⟨⟩
  · have hc1 : ¬ Rx.marks.contains c = true := by rw [hc]; simp
    try (first | refine gl tb ?_ | refine gg tb ?_ | refine ll tb ?_ | refine lg tb ?_); repeat ((first | refine G.condT rfl ?_ | refine G.condF rfl ?_ | refine sFa tb ?_ | refine sLd tb ?_ | refine sLa tb ?_ | refine sLen tb ?_ | refine sFd tb ?_ | refine sBd tb ?_ | refine sBa tb ?_); try (first | refine gl tb ?_ | refine gg tb ?_ | refine ll tb ?_ | refine lg tb ?_))
    refine sBs' tb ([spanC (c, c)]) (fun v W2 ho hsz hx2 => ?_) (hkl := by simp [spanC])
    obtain ⟨va, vc, hve, _⟩ := ho.sli.len
    subst hve
    try (first | refine gl tb ?_ | refine gg tb ?_ | refine ll tb ?_ | refine lg tb ?_); repeat ((first | refine G.condT rfl ?_ | refine G.condF rfl ?_ | refine sFa tb ?_ | refine sLd tb ?_ | refine sLa tb ?_ | refine sLen tb ?_ | refine sFd tb ?_ | refine sBd tb ?_ | refine sBa tb ?_); try (first | refine gl tb ?_ | refine gg tb ?_ | refine ll tb ?_ | refine lg tb ?_))
    refine sBox (fun W3 hb3 hs3 hx3 => ?_)
    try (first | refine gl tb ?_ | refine gg tb ?_ | refine ll tb ?_ | refine lg tb ?_); repeat ((first | refine G.condT rfl ?_ | refine G.condF rfl ?_ | refine sFa tb ?_ | refine sLd tb ?_ | refine sLa tb ?_ | refine sLen tb ?_ | refine sFd tb ?_ | refine sBd tb ?_ | refine sBa tb ?_); try (first | refine gl tb ?_ | refine gg tb ?_ | refine ll tb ?_ | refine lg tb ?_))
    refine G.retP1 rfl rfl rfl rfl ?_
    have hs1 := hk1.size
    have hs2 := hx2.size
    exact ⟨.set [(c, c)] false, j, g, hE _ (if_neg hc1), .mk W2.heap.size _ nilV [] (by show w.heap.size ≤ _; omega) hb3 ⟨(ho.to hx3).mono (Nat.zero_le _), fun q e => by have := (ho.lt q e).1; show w.heap.size ≤ q; omega⟩ ⟨by simp [spansT, Small]; exact hm, by simp [numT, mnT, mxT]⟩ (RowA.nil _ _ _ _) rfl (fun i t' u h1 => by simp [kidsT] at h1), (hr1.to hx2).to hx3, (hk1.trans hx2.kp).trans hx3.kp, hij⟩
end Go.Proofs.YtbpkhgehchelhaaDoor
