/- Part of the proof of a statement about the given program. -/
import Derived.Test.YtmkckngecjpklaaDoorP04
import Derived.Defers
import Derived.Recover
import Derived.ControlIn
import Derived.Tactics
import Derived.Tactics2
section
open Go Go.Vg Go.RowKit Go.Proofs Go.Proofs.YtmkckngecjpklaaDoor
namespace Go.Proofs.YtmkckngecjpklaaDoor
set_option linter.unusedSimpArgs false

set_option maxHeartbeats 4000000 in
theorem thing_ok (n : Nat) (hA : AltC n) : ThingC (n + 1) := by
  intro w rb s i g h hn
  have hbx := h.bx
  have hsz := h.hs
  have hi := h.hi
  have hgi := h.hg
  unfold rdC at hbx
  rw [Rx.parse_thing]
  refine ret_of_GP Tryd.func89 rfl Tryd.ntmps89 rfl ?_
  simp only [argEnv]
  try (first | refine gl tb ?_ | refine gg tb ?_ | refine ll tb ?_ | refine lg tb ?_); repeat ((first | refine G.condT rfl ?_ | refine G.condF rfl ?_ | refine sFa tb ?_ | refine sLd tb ?_ | refine sLa tb ?_ | refine sLen tb ?_ | refine sFd tb ?_ | refine sBd tb ?_ | refine sBa tb ?_); try (first | refine gl tb ?_ | refine gg tb ?_ | refine ll tb ?_ | refine lg tb ?_))
  refine sCallP c93 (char_ok w rb s i g h) (fun ch w' hz => px_P rfl rfl ?_) ?_
  · exact ⟨i, if_neg hz.1, hz.2.1, hz.2.2⟩
  rintro _ W ⟨hlt, rfl, hr, hk⟩
  rw [if_pos hlt]
  have hm := Rx.dec_max s i
  have hp := Rx.dec_pos s i
  have hle := Rx.dec_le hlt
  generalize (Rx.dec s i).1 = c at hm ⊢
  generalize hj : i + (Rx.dec s i).2 = j at hr hle
  have hij : i < j := by omega
  clear hbx
  try (first | refine gl tb ?_ | refine gg tb ?_ | refine ll tb ?_ | refine lg tb ?_); repeat ((first | refine G.condT rfl ?_ | refine G.condF rfl ?_ | refine sFa tb ?_ | refine sLd tb ?_ | refine sLa tb ?_ | refine sLen tb ?_ | refine sFd tb ?_ | refine sBd tb ?_ | refine sBa tb ?_); try (first | refine gl tb ?_ | refine gg tb ?_ | refine ll tb ?_ | refine lg tb ?_))
  first | refine G.condD rfl (fun hc => ?_) (fun hc => ?_) | refine G.condN rfl (fun hc => ?_) (fun hc => ?_) | refine G.cond rfl (fun hc => ?_) (fun hc => ?_)
  · obtain rfl : c = 46 := by omega
    try (first | refine gl tb ?_ | refine gg tb ?_ | refine ll tb ?_ | refine lg tb ?_); repeat ((first | refine G.condT rfl ?_ | refine G.condF rfl ?_ | refine sFa tb ?_ | refine sLd tb ?_ | refine sLa tb ?_ | refine sLen tb ?_ | refine sFd tb ?_ | refine sBd tb ?_ | refine sBa tb ?_); try (first | refine gl tb ?_ | refine gg tb ?_ | refine ll tb ?_ | refine lg tb ?_))
    refine sBox (fun W1 hb1 hs1 hx1 => ?_)
    try (first | refine gl tb ?_ | refine gg tb ?_ | refine ll tb ?_ | refine lg tb ?_); repeat ((first | refine G.condT rfl ?_ | refine G.condF rfl ?_ | refine sFa tb ?_ | refine sLd tb ?_ | refine sLa tb ?_ | refine sLen tb ?_ | refine sFd tb ?_ | refine sBd tb ?_ | refine sBa tb ?_); try (first | refine gl tb ?_ | refine gg tb ?_ | refine ll tb ?_ | refine lg tb ?_))
    refine G.retP1 rfl rfl rfl rfl ?_
    exact ⟨.set [] true, j, g, rfl, .mk W.heap.size nilV nilV [] hk.size hb1 (RowA.nil _ _ _ _) (by simp [TrB, spansT, Small, numT, mnT, mxT]) (RowA.nil _ _ _ _) rfl (fun i t' u h1 => by simp [kidsT] at h1), hr.to hx1, hk.trans hx1.kp, hij⟩
  try (first | refine gl tb ?_ | refine gg tb ?_ | refine ll tb ?_ | refine lg tb ?_); repeat ((first | refine G.condT rfl ?_ | refine G.condF rfl ?_ | refine sFa tb ?_ | refine sLd tb ?_ | refine sLa tb ?_ | refine sLen tb ?_ | refine sFd tb ?_ | refine sBd tb ?_ | refine sBa tb ?_); try (first | refine gl tb ?_ | refine gg tb ?_ | refine ll tb ?_ | refine lg tb ?_))
  first | refine G.condD rfl (fun hc => ?_) (fun hc => ?_) | refine G.condN rfl (fun hc => ?_) (fun hc => ?_) | refine G.cond rfl (fun hc => ?_) (fun hc => ?_)
  · obtain rfl : c = 94 := by omega
    try (first | refine gl tb ?_ | refine gg tb ?_ | refine ll tb ?_ | refine lg tb ?_); repeat ((first | refine G.condT rfl ?_ | refine G.condF rfl ?_ | refine sFa tb ?_ | refine sLd tb ?_ | refine sLa tb ?_ | refine sLen tb ?_ | refine sFd tb ?_ | refine sBd tb ?_ | refine sBa tb ?_); try (first | refine gl tb ?_ | refine gg tb ?_ | refine ll tb ?_ | refine lg tb ?_))
    refine sBox (fun W1 hb1 hs1 hx1 => ?_)
    try (first | refine gl tb ?_ | refine gg tb ?_ | refine ll tb ?_ | refine lg tb ?_); repeat ((first | refine G.condT rfl ?_ | refine G.condF rfl ?_ | refine sFa tb ?_ | refine sLd tb ?_ | refine sLa tb ?_ | refine sLen tb ?_ | refine sFd tb ?_ | refine sBd tb ?_ | refine sBa tb ?_); try (first | refine gl tb ?_ | refine gg tb ?_ | refine ll tb ?_ | refine lg tb ?_))
    refine G.retP1 rfl rfl rfl rfl ?_
    exact ⟨.bos, j, g, rfl, .mk W.heap.size nilV nilV [] hk.size hb1 (RowA.nil _ _ _ _) (by simp [TrB, spansT, Small, numT, mnT, mxT]) (RowA.nil _ _ _ _) rfl (fun i t' u h1 => by simp [kidsT] at h1), hr.to hx1, hk.trans hx1.kp, hij⟩
  try (first | refine gl tb ?_ | refine gg tb ?_ | refine ll tb ?_ | refine lg tb ?_); repeat ((first | refine G.condT rfl ?_ | refine G.condF rfl ?_ | refine sFa tb ?_ | refine sLd tb ?_ | refine sLa tb ?_ | refine sLen tb ?_ | refine sFd tb ?_ | refine sBd tb ?_ | refine sBa tb ?_); try (first | refine gl tb ?_ | refine gg tb ?_ | refine ll tb ?_ | refine lg tb ?_))
  first | refine G.condD rfl (fun hc => ?_) (fun hc => ?_) | refine G.condN rfl (fun hc => ?_) (fun hc => ?_) | refine G.cond rfl (fun hc => ?_) (fun hc => ?_)
  · obtain rfl : c = 36 := by omega
    try (first | refine gl tb ?_ | refine gg tb ?_ | refine ll tb ?_ | refine lg tb ?_); repeat ((first | refine G.condT rfl ?_ | refine G.condF rfl ?_ | refine sFa tb ?_ | refine sLd tb ?_ | refine sLa tb ?_ | refine sLen tb ?_ | refine sFd tb ?_ | refine sBd tb ?_ | refine sBa tb ?_); try (first | refine gl tb ?_ | refine gg tb ?_ | refine ll tb ?_ | refine lg tb ?_))
    refine sBox (fun W1 hb1 hs1 hx1 => ?_)
    try (first | refine gl tb ?_ | refine gg tb ?_ | refine ll tb ?_ | refine lg tb ?_); repeat ((first | refine G.condT rfl ?_ | refine G.condF rfl ?_ | refine sFa tb ?_ | refine sLd tb ?_ | refine sLa tb ?_ | refine sLen tb ?_ | refine sFd tb ?_ | refine sBd tb ?_ | refine sBa tb ?_); try (first | refine gl tb ?_ | refine gg tb ?_ | refine ll tb ?_ | refine lg tb ?_))
    refine G.retP1 rfl rfl rfl rfl ?_
    exact ⟨.eos, j, g, rfl, .mk W.heap.size nilV nilV [] hk.size hb1 (RowA.nil _ _ _ _) (by simp [TrB, spansT, Small, numT, mnT, mxT]) (RowA.nil _ _ _ _) rfl (fun i t' u h1 => by simp [kidsT] at h1), hr.to hx1, hk.trans hx1.kp, hij⟩
  try (first | refine gl tb ?_ | refine gg tb ?_ | refine ll tb ?_ | refine lg tb ?_); repeat ((first | refine G.condT rfl ?_ | refine G.condF rfl ?_ | refine sFa tb ?_ | refine sLd tb ?_ | refine sLa tb ?_ | refine sLen tb ?_ | refine sFd tb ?_ | refine sBd tb ?_ | refine sBa tb ?_); try (first | refine gl tb ?_ | refine gg tb ?_ | refine ll tb ?_ | refine lg tb ?_))
  first | refine G.condD rfl (fun hc => ?_) (fun hc => ?_) | refine G.condN rfl (fun hc => ?_) (fun hc => ?_) | refine G.cond rfl (fun hc => ?_) (fun hc => ?_)
  · obtain rfl : c = 91 := by omega
    try (first | refine gl tb ?_ | refine gg tb ?_ | refine ll tb ?_ | refine lg tb ?_); repeat ((first | refine G.condT rfl ?_ | refine G.condF rfl ?_ | refine sFa tb ?_ | refine sLd tb ?_ | refine sLa tb ?_ | refine sLen tb ?_ | refine sFd tb ?_ | refine sBd tb ?_ | refine sBa tb ?_); try (first | refine gl tb ?_ | refine gg tb ?_ | refine ll tb ?_ | refine lg tb ?_))
    refine sCallP c94 (class_ok W rb s j g hr) (fun ch w' hz => px_P rfl rfl ?_) ?_
    · obtain ⟨e, he, hw, hk2⟩ := hz
      exact ⟨e, by rw [he]; rfl, hw, hk.trans hk2⟩
    rintro v W1 ⟨t, a, hE, hja, hT, hr1, hk1⟩
    try (first | refine gl tb ?_ | refine gg tb ?_ | refine ll tb ?_ | refine lg tb ?_); repeat ((first | refine G.condT rfl ?_ | refine G.condF rfl ?_ | refine sFa tb ?_ | refine sLd tb ?_ | refine sLa tb ?_ | refine sLen tb ?_ | refine sFd tb ?_ | refine sBd tb ?_ | refine sBa tb ?_); try (first | refine gl tb ?_ | refine gg tb ?_ | refine ll tb ?_ | refine lg tb ?_))
    refine G.retP1 rfl rfl rfl rfl ?_
    exact ⟨t, a, g, by rw [hE]; rfl, hT.same fun b hb hA => ⟨rfl, Nat.le_trans hk.size hA⟩, hr1, hk.trans hk1, by omega⟩
  try (first | refine gl tb ?_ | refine gg tb ?_ | refine ll tb ?_ | refine lg tb ?_); repeat ((first | refine G.condT rfl ?_ | refine G.condF rfl ?_ | refine sFa tb ?_ | refine sLd tb ?_ | refine sLa tb ?_ | refine sLen tb ?_ | refine sFd tb ?_ | refine sBd tb ?_ | refine sBa tb ?_); try (first | refine gl tb ?_ | refine gg tb ?_ | refine ll tb ?_ | refine lg tb ?_))
  first | refine G.condD rfl (fun hc => ?_) (fun hc => ?_) | refine G.condN rfl (fun hc => ?_) (fun hc => ?_) | refine G.cond rfl (fun hc => ?_) (fun hc => ?_)
  · obtain rfl : c = 40 := by omega
    try (first | refine gl tb ?_ | refine gg tb ?_ | refine ll tb ?_ | refine lg tb ?_); repeat ((first | refine G.condT rfl ?_ | refine G.condF rfl ?_ | refine sFa tb ?_ | refine sLd tb ?_ | refine sLa tb ?_ | refine sLen tb ?_ | refine sFd tb ?_ | refine sBd tb ?_ | refine sBa tb ?_); try (first | refine gl tb ?_ | refine gg tb ?_ | refine ll tb ?_ | refine lg tb ?_))
    refine sCallP c95 (bracket_ok n hA W rb s j g hr (by omega) (by simp only [Rx.need] at hn ⊢; omega)) (fun ch w' hz => px_P rfl rfl ?_) ?_
    · obtain ⟨e, he, hw, hk2⟩ := hz
      exact ⟨e, by simpa using he, hw, hk.trans hk2⟩
    rintro v W1 ⟨t, a, g', hE, hT, hr1, hk1, hja⟩
    try (first | refine gl tb ?_ | refine gg tb ?_ | refine ll tb ?_ | refine lg tb ?_); repeat ((first | refine G.condT rfl ?_ | refine G.condF rfl ?_ | refine sFa tb ?_ | refine sLd tb ?_ | refine sLa tb ?_ | refine sLen tb ?_ | refine sFd tb ?_ | refine sBd tb ?_ | refine sBa tb ?_); try (first | refine gl tb ?_ | refine gg tb ?_ | refine ll tb ?_ | refine lg tb ?_))
    refine G.retP1 rfl rfl rfl rfl ?_
    exact ⟨t, a, g', by simpa using hE, hT.same fun b hb hA => ⟨rfl, Nat.le_trans hk.size hA⟩, hr1, hk.trans hk1, by omega⟩
  try (first | refine gl tb ?_ | refine gg tb ?_ | refine ll tb ?_ | refine lg tb ?_); repeat ((first | refine G.condT rfl ?_ | refine G.condF rfl ?_ | refine sFa tb ?_ | refine sLd tb ?_ | refine sLa tb ?_ | refine sLen tb ?_ | refine sFd tb ?_ | refine sBd tb ?_ | refine sBa tb ?_); try (first | refine gl tb ?_ | refine gg tb ?_ | refine ll tb ?_ | refine lg tb ?_))
  first | refine G.condD rfl (fun hc => ?_) (fun hc => ?_) | refine G.condN rfl (fun hc => ?_) (fun hc => ?_) | refine G.cond rfl (fun hc => ?_) (fun hc => ?_)
  · obtain rfl : c = 92 := by omega
    try (first | refine gl tb ?_ | refine gg tb ?_ | refine ll tb ?_ | refine lg tb ?_); repeat ((first | refine G.condT rfl ?_ | refine G.condF rfl ?_ | refine sFa tb ?_ | refine sLd tb ?_ | refine sLa tb ?_ | refine sLen tb ?_ | refine sFd tb ?_ | refine sBd tb ?_ | refine sBa tb ?_); try (first | refine gl tb ?_ | refine gg tb ?_ | refine ll tb ?_ | refine lg tb ?_))
    refine sCallP c96 (escape_ok W rb s j g hr) (fun ch w' hz => px_P rfl rfl ?_) ?_
    · obtain ⟨e, he, hw, hk2⟩ := hz
      exact ⟨e, by rw [he]; rfl, hw, hk.trans hk2⟩
    rintro _ W1 ⟨l, neg, a, v, hE, rfl, hjl, hja, hv, hne, hll, hsm, hr1, hk1⟩
    obtain ⟨va, vc, hve, _⟩ := hv.sli.len
    subst hve
    try (first | refine gl tb ?_ | refine gg tb ?_ | refine ll tb ?_ | refine lg tb ?_); repeat ((first | refine G.condT rfl ?_ | refine G.condF rfl ?_ | refine sFa tb ?_ | refine sLd tb ?_ | refine sLa tb ?_ | refine sLen tb ?_ | refine sFd tb ?_ | refine sBd tb ?_ | refine sBa tb ?_); try (first | refine gl tb ?_ | refine gg tb ?_ | refine ll tb ?_ | refine lg tb ?_))
    refine sBox (fun W2 hb2 hs2 hx2 => ?_)
    try (first | refine gl tb ?_ | refine gg tb ?_ | refine ll tb ?_ | refine lg tb ?_); repeat ((first | refine G.condT rfl ?_ | refine G.condF rfl ?_ | refine sFa tb ?_ | refine sLd tb ?_ | refine sLa tb ?_ | refine sLen tb ?_ | refine sFd tb ?_ | refine sBd tb ?_ | refine sBa tb ?_); try (first | refine gl tb ?_ | refine gg tb ?_ | refine ll tb ?_ | refine lg tb ?_))
    refine G.retP1 rfl rfl rfl rfl ?_
    have hs1 := hk1.size
    have hs0 := hk.size
    exact ⟨.set l neg, a, g, by rw [hE]; rfl, .mk W1.heap.size _ nilV [] (by show w.heap.size ≤ _; omega) hb2 ⟨(hv.to hx2).mono (Nat.zero_le _), fun q e => by have := (hv.lt q e).1; show w.heap.size ≤ q; omega⟩ ⟨hsm, by simp [numT, mnT, mxT]⟩ (RowA.nil _ _ _ _) rfl (fun i t' u h1 => by simp [kidsT] at h1), hr1.to hx2, (hk.trans hk1).trans hx2.kp, by omega⟩
  try (first | refine gl tb ?_ | refine gg tb ?_ | refine ll tb ?_ | refine lg tb ?_); repeat ((first | refine G.condT rfl ?_ | refine G.condF rfl ?_ | refine sFa tb ?_ | refine sLd tb ?_ | refine sLa tb ?_ | refine sLen tb ?_ | refine sFd tb ?_ | refine sBd tb ?_ | refine sBa tb ?_); try (first | refine gl tb ?_ | refine gg tb ?_ | refine ll tb ?_ | refine lg tb ?_))
  refine sCall c97 (cr_ok [92, 46, 43, 42, 63, 40, 41, 124, 91, 93, 123, 125, 94, 36] c hm (by decide) (by decide) W) ?_
  rintro _ W1 ⟨rfl, hx1⟩
  have hmk : (([92, 46, 43, 42, 63, 40, 41, 124, 91, 93, 123, 125, 94, 36] : List UInt8).map (·.toNat)) = Rx.marks := by decide
  rw [hmk]
  have hr1 := hr.to hx1
  have hk1 := hk.trans hx1.kp
  have hE : ∀ R : Except Nat (Rx.T × Nat × Nat), (if Rx.marks.contains c = true then .error i else .ok (.set [(c, c)] false, j, g)) = R → (if c = 46 then .ok (.set [] true, j, g) else if c = 94 then .ok (.bos, j, g) else if c = 36 then .ok (.eos, j, g)
       else if c = 91 then (match Rx.cls s j with | .error e => .error e | .ok (t, b) => .ok (t, b, g))
       else if c = 40 then Rx.brk s n j g
       else if c = 92 then (match Rx.escape s j with | .error e => .error e | .ok ((l, neg), b) => .ok (.set l neg, b, g))
       else if Rx.marks.contains c then .error i else .ok (.set [(c, c)] false, j, g)) = R := fun R hR => by
    rw [if_neg (by omega), if_neg (by omega), if_neg (by omega), if_neg (by omega), if_neg (by omega), if_neg (by omega)]; exact hR
  try (first | refine gl tb ?_ | refine gg tb ?_ | refine ll tb ?_ | refine lg tb ?_); repeat ((first | refine G.condT rfl ?_ | refine G.condF rfl ?_ | refine sFa tb ?_ | refine sLd tb ?_ | refine sLa tb ?_ | refine sLen tb ?_ | refine sFd tb ?_ | refine sBd tb ?_ | refine sBa tb ?_); try (first | refine gl tb ?_ | refine gg tb ?_ | refine ll tb ?_ | refine lg tb ?_))
  first | refine G.condD rfl (fun hc => ?_) (fun hc => ?_) | refine G.condN rfl (fun hc => ?_) (fun hc => ?_) | refine G.cond rfl (fun hc => ?_) (fun hc => ?_)
  · have hc1 : Rx.marks.contains c = true := hc
    try (first | refine gl tb ?_ | refine gg tb ?_ | refine ll tb ?_ | refine lg tb ?_); repeat ((first | refine G.condT rfl ?_ | refine G.condF rfl ?_ | refine sFa tb ?_ | refine sLd tb ?_ | refine sLa tb ?_ | refine sLen tb ?_ | refine sFd tb ?_ | refine sBd tb ?_ | refine sBa tb ?_); try (first | refine gl tb ?_ | refine gg tb ?_ | refine ll tb ?_ | refine lg tb ?_))
    refine sCallP c50 (fail_ok rb i W1) (fun ch w' hz => px_P rfl rfl ?_) ?_
    · exact Bad.mk (hE _ (if_pos hc1)) hz hk1
    · rintro _ _ ⟨⟩
  · have hc1 : ¬ Rx.marks.contains c = true := by rw [hc]; simp
    try (first | refine gl tb ?_ | refine gg tb ?_ | refine ll tb ?_ | refine lg tb ?_); repeat ((first | refine G.condT rfl ?_ | refine G.condF rfl ?_ | refine sFa tb ?_ | refine sLd tb ?_ | refine sLa tb ?_ | refine sLen tb ?_ | refine sFd tb ?_ | refine sBd tb ?_ | refine sBa tb ?_); try (first | refine gl tb ?_ | refine gg tb ?_ | refine ll tb ?_ | refine lg tb ?_))
    refine sBs' tb ([spanC (c, c)]) (fun v W2 ho hsz hx2 => ?_) (hkl := by simp [spanC])
    obtain ⟨va, vc, hve, _⟩ := ho.sli.len
    subst hve
    try (first | refine gl tb ?_ | refine gg tb ?_ | refine ll tb ?_ | refine lg tb ?_); repeat ((first | refine G.condT rfl ?_ | refine G.condF rfl ?_ | refine sFa tb ?_ | refine sLd tb ?_ | refine sLa tb ?_ | refine sLen tb ?_ | refine sFd tb ?_ | refine sBd tb ?_ | refine sBa tb ?_); try (first | refine gl tb ?_ | refine gg tb ?_ | refine ll tb ?_ | refine lg tb ?_))
    refine sBox (fun W3 hb3 hs3 hx3 => ?_)
    try (first | refine gl tb ?_ | refine gg tb ?_ | refine ll tb ?_ | refine lg tb ?_); repeat ((first | refine G.condT rfl ?_ | refine G.condF rfl ?_ | refine sFa tb ?_ | refine sLd tb ?_ | refine sLa tb ?_ | refine sLen tb ?_ | refine sFd tb ?_ | refine sBd tb ?_ | refine sBa tb ?_); try (first | refine gl tb ?_ | refine gg tb ?_ | refine ll tb ?_ | refine lg tb ?_))
    refine G.retP1 rfl rfl rfl rfl ?_
    have hs1 := hk1.size
    have hs2 := hx2.size
    exact ⟨.set [(c, c)] false, j, g, hE _ (if_neg hc1), .mk W2.heap.size _ nilV [] (by show w.heap.size ≤ _; omega) hb3 ⟨(ho.to hx3).mono (Nat.zero_le _), fun q e => by have := (ho.lt q e).1; show w.heap.size ≤ q; omega⟩ ⟨by simp [spansT, Small]; exact hm, by simp [numT, mnT, mxT]⟩ (RowA.nil _ _ _ _) rfl (fun i t' u h1 => by simp [kidsT] at h1), (hr1.to hx2).to hx3, (hk1.trans hx2.kp).trans hx3.kp, hij⟩
end Go.Proofs.YtmkckngecjpklaaDoor
end
section
open Go Go.Vg Go.RowKit Go.Proofs Go.Proofs.YtmkckngecjpklaaDoor
namespace Go.Proofs.YtmkckngecjpklaaDoor
set_option linter.unusedSimpArgs false

/-- a repeat under way -/
structure Rp (w W : World) (rb xb : Nat) (s : List UInt8) (b g : Nat) (t : Rx.T) (ub : Nat) (ks : Value) (mn mx : Int) (few plus : Bool) : Prop where
  rd : Rd W rb s b g
  kp : Kp rb w W
  lt : rb < w.heap.size
  bx : Bx W xb [.int .i64 7, nilV, .bool false, .int .i64 0, .int .i64 mn, .int .i64 mx, .bool few, .bool plus, ks]
  ge : w.heap.size ≤ xb
  tr : Tr W (fun b => w.heap.size ≤ b ∧ b ≠ xb) t (ptr ub)
  ow : Owns W w.heap.size ks 73 1 [[ptr ub]]
  ne : ks.ownBlock ≠ some xb
theorem Rp.to {w W W' : World} {rb xb : Nat} {s : List UInt8} {b b' g : Nat} {t : Rx.T} {ub : Nat} {ks : Value} {mn mx : Int} {few plus : Bool} (h : Rp w W rb xb s b g t ub ks mn mx few plus) (hk : Kp rb W W') (hr : Rd W' rb s b' g) :
    Rp w W' rb xb s b' g t ub ks mn mx few plus :=
  ⟨hr, h.kp.trans hk, h.lt, h.bx.kp hk (by have := h.lt; have := h.ge; omega), h.ge, h.tr.same fun q hq hA => ⟨hk.block q hq (by have := hA.1; have := h.lt; omega), hA⟩, h.ow.kp hk h.lt, h.ne⟩
theorem Rp.st {w W W' : World} {rb xb : Nat} {s : List UInt8} {b g : Nat} {t : Rx.T} {ub : Nat} {ks : Value} {mn mx mn' mx' : Int} {few plus few' plus' : Bool} (h : Rp w W rb xb s b g t ub ks mn mx few plus) (hk : Wr xb W W')
    (hb : Bx W' xb [.int .i64 7, nilV, .bool false, .int .i64 0, .int .i64 mn', .int .i64 mx', .bool few', .bool plus', ks]) : Rp w W' rb xb s b g t ub ks mn' mx' few' plus' :=
  ⟨h.rd.kp hk.kp (by have := h.lt; have := h.ge; omega), h.kp.new hk.kp h.ge, h.lt, hb, h.ge, h.tr.same fun q hq hA => ⟨hk.block q hA.2, hA⟩, h.ow.same (fun q hq e => hk.block q fun e2 => h.ne (by rw [← e2]; exact e)), h.ne⟩

set_option maxHeartbeats 4000000 in
theorem rep_ok (n : Nat) (hA : ThingC n) : RepC (n + 1) := by
  intro w rb s i g h hn
  rw [Rx.parse_rep]
  refine ret_of_GP Tryd.func82 rfl Tryd.ntmps82 rfl ?_
  simp only [argEnv]
  try (first | refine gl tb ?_ | refine gg tb ?_ | refine ll tb ?_ | refine lg tb ?_); repeat ((first | refine G.condT rfl ?_ | refine G.condF rfl ?_ | refine sFa tb ?_ | refine sLd tb ?_ | refine sLa tb ?_ | refine sLen tb ?_ | refine sFd tb ?_ | refine sBd tb ?_ | refine sBa tb ?_); try (first | refine gl tb ?_ | refine gg tb ?_ | refine ll tb ?_ | refine lg tb ?_))
  refine sCallP c89 (hA w rb s i g h (by simp only [Rx.need] at hn ⊢; omega)) (fun ch w' hz => px_P rfl rfl ?_) ?_
  · obtain ⟨e, he, hw, hk2⟩ := hz
    exact ⟨e, by rw [he], hw, hk2⟩
  rintro v W ⟨t, a, g', hE, hT, hr, hk, hia⟩
  rw [hE]
  have hT0 := hT
  obtain ⟨ub, sp, ks0, us, hub, hb0⟩ : ∃ ub sp ks us, v = ptr ub ∧ Bx W ub (cellsT sp ks t) := by
    cases hT with
    | mk b sp ks us hA hb => exact ⟨b, sp, ks, us, rfl, hb⟩
  subst hub
  unfold cellsT trC at hb0
  have hsg : (decide ((kindT t : Int) = 2) || decide ((kindT t : Int) = 3)) = Rx.single t := by cases t <;> rfl
  simp only
  try (first | refine gl tb ?_ | refine gg tb ?_ | refine ll tb ?_ | refine lg tb ?_); repeat ((first | refine G.condT rfl ?_ | refine G.condF rfl ?_ | refine sFa tb ?_ | refine sLd tb ?_ | refine sLa tb ?_ | refine sLen tb ?_ | refine sFd tb ?_ | refine sBd tb ?_ | refine sBa tb ?_); try (first | refine gl tb ?_ | refine gg tb ?_ | refine ll tb ?_ | refine lg tb ?_))
  rw [hsg]
  first | refine G.condD rfl (fun hc => ?_) (fun hc => ?_) | refine G.condN rfl (fun hc => ?_) (fun hc => ?_) | refine G.cond rfl (fun hc => ?_) (fun hc => ?_)
  · have hc1 : Rx.single t = true := hc
    rw [if_pos hc1]
    try (first | refine gl tb ?_ | refine gg tb ?_ | refine ll tb ?_ | refine lg tb ?_); repeat ((first | refine G.condT rfl ?_ | refine G.condF rfl ?_ | refine sFa tb ?_ | refine sLd tb ?_ | refine sLa tb ?_ | refine sLen tb ?_ | refine sFd tb ?_ | refine sBd tb ?_ | refine sBa tb ?_); try (first | refine gl tb ?_ | refine gg tb ?_ | refine ll tb ?_ | refine lg tb ?_))
    refine G.retP1 rfl rfl rfl rfl ?_
    exact ⟨t, a, g', rfl, hT, hr, hk, hia⟩
  have hc1 : ¬ Rx.single t = true := by rw [hc]; simp
  rw [if_neg hc1]
  clear hc hc1 hsg
  try (first | refine gl tb ?_ | refine gg tb ?_ | refine ll tb ?_ | refine lg tb ?_); repeat ((first | refine G.condT rfl ?_ | refine G.condF rfl ?_ | refine sFa tb ?_ | refine sLd tb ?_ | refine sLa tb ?_ | refine sLen tb ?_ | refine sFd tb ?_ | refine sBd tb ?_ | refine sBa tb ?_); try (first | refine gl tb ?_ | refine gg tb ?_ | refine ll tb ?_ | refine lg tb ?_))
  refine sBs' tb [[ptr ub]] (fun ks W1 ho1 hs1 hx1 => ?_)
  obtain ⟨va, vc, hve, _⟩ := ho1.sli.len
  subst hve
  try (first | refine gl tb ?_ | refine gg tb ?_ | refine ll tb ?_ | refine lg tb ?_); repeat ((first | refine G.condT rfl ?_ | refine G.condF rfl ?_ | refine sFa tb ?_ | refine sLd tb ?_ | refine sLa tb ?_ | refine sLen tb ?_ | refine sFd tb ?_ | refine sBd tb ?_ | refine sBa tb ?_); try (first | refine gl tb ?_ | refine gg tb ?_ | refine ll tb ?_ | refine lg tb ?_))
  refine sBox (fun W2 hb2 hs2 hx2 => ?_)
  have hp0 : Rp w W2 rb W1.heap.size s a g' t ub _ 0 0 false false := ⟨(hr.to hx1).to hx2, (hk.trans hx1.kp).trans hx2.kp, h.bx.lt, hb2, by have := hk.size; have := hx1.size; omega,
    (hT.same fun q hq hA => ⟨(hx2.block q (by have := hx1.size; omega)).trans (hx1.block q hq), hA, by have := hx1.size; omega⟩), (ho1.to hx2).mono hk.size, fun e => by have := (ho1.lt _ e).2; omega⟩
  clear hb2 hs2 hs1 hb0
  generalize hxb : W1.heap.size = xb at hp0
  refine GL.cons (Step.assign rfl (Op1.of rfl (by first | exact fun _ => rfl | exact fun h => h | exact fun h => bL h | exact fun h => bL (bL h) | exact fun h => bL (bL (bL h)))) rfl ?_)
  refine GL.nil ?_
  refine G.seq ?_
  refine G.join (fun _ : Nat × Int × Bool × Nat => [(0, none, ptr rb), (4, none, ptr xb)])
    (fun p W' => Rx.rept s a = .ok (some p) ∧ Rp w W' rb xb s p.2.2.2 g' t ub (.slice va [[ptr ub]].length vc) p.1 p.2.1 false p.2.2.1 ∧ i + 1 ≤ p.2.2.2 ∧ (p.1 : Int) ≤ 100 ∧ p.2.1 ≤ 100) ?_ ?_
  rotate_left
  · try (first | refine gl tb ?_ | refine gg tb ?_ | refine ll tb ?_ | refine lg tb ?_); repeat ((first | refine G.condT rfl ?_ | refine G.condF rfl ?_ | refine sFa tb ?_ | refine sLd tb ?_ | refine sLa tb ?_ | refine sLen tb ?_ | refine sFd tb ?_ | refine sBd tb ?_ | refine sBa tb ?_); try (first | refine gl tb ?_ | refine gg tb ?_ | refine ll tb ?_ | refine lg tb ?_))
    refine sCall c68 (takes_ok 42 W2 rb s a g' hp0.rd) ?_
    rintro _ W3 ⟨rfl, hr3, hk3⟩
    have hp3 := hp0.to hk3 hr3
    clear hr3 hk3
    try (first | refine gl tb ?_ | refine gg tb ?_ | refine ll tb ?_ | refine lg tb ?_); repeat ((first | refine G.condT rfl ?_ | refine G.condF rfl ?_ | refine sFa tb ?_ | refine sLd tb ?_ | refine sLa tb ?_ | refine sLen tb ?_ | refine sFd tb ?_ | refine sBd tb ?_ | refine sBa tb ?_); try (first | refine gl tb ?_ | refine gg tb ?_ | refine ll tb ?_ | refine lg tb ?_))
    first | refine G.condD rfl (fun hc => ?_) (fun hc => ?_) | refine G.condN rfl (fun hc => ?_) (fun hc => ?_) | refine G.cond rfl (fun hc => ?_) (fun hc => ?_)
    · have hc1 : Rx.isB s a 42 = true := hc
      rw [hc1] at hp3
      simp only [if_true] at hp3
      have hxx := hp3.bx
      try (first | refine gl tb ?_ | refine gg tb ?_ | refine ll tb ?_ | refine lg tb ?_); repeat ((first | refine G.condT rfl ?_ | refine G.condF rfl ?_ | refine sFa tb ?_ | refine sLd tb ?_ | refine sLa tb ?_ | refine sLen tb ?_ | refine sFd tb ?_ | refine sBd tb ?_ | refine sBa tb ?_); try (first | refine gl tb ?_ | refine gg tb ?_ | refine ll tb ?_ | refine lg tb ?_))
      refine sSf tb (fun W4 hb4 hw4 => ?_)
      have hp4 := hp3.st hw4 hb4
      clear hb4 hxx
      have hxx := hp4.bx
      try (first | refine gl tb ?_ | refine gg tb ?_ | refine ll tb ?_ | refine lg tb ?_); repeat ((first | refine G.condT rfl ?_ | refine G.condF rfl ?_ | refine sFa tb ?_ | refine sLd tb ?_ | refine sLa tb ?_ | refine sLen tb ?_ | refine sFd tb ?_ | refine sBd tb ?_ | refine sBa tb ?_); try (first | refine gl tb ?_ | refine gg tb ?_ | refine ll tb ?_ | refine lg tb ?_))
      refine sSf tb (fun W5 hb5 hw5 => ?_)
      have hp5 := hp4.st hw5 hb5
      try (first | refine gl tb ?_ | refine gg tb ?_ | refine ll tb ?_ | refine lg tb ?_); repeat ((first | refine G.condT rfl ?_ | refine G.condF rfl ?_ | refine sFa tb ?_ | refine sLd tb ?_ | refine sLa tb ?_ | refine sLen tb ?_ | refine sFd tb ?_ | refine sBd tb ?_ | refine sBa tb ?_); try (first | refine gl tb ?_ | refine gg tb ?_ | refine ll tb ?_ | refine lg tb ?_))
      exact G.met (0, -1, false, a + 1) (by repeat (first | exact Sub.nil _ | refine Sub.cons rfl ?_)) ⟨by unfold Rx.rept; rw [if_pos hc1], hp5, by simp only; omega, by simp only; omega, by simp only; omega⟩
    have hn1 : ¬ Rx.isB s a 42 = true := by rw [hc]; simp
    rw [if_neg hn1] at hp3
    try (first | refine gl tb ?_ | refine gg tb ?_ | refine ll tb ?_ | refine lg tb ?_); repeat ((first | refine G.condT rfl ?_ | refine G.condF rfl ?_ | refine sFa tb ?_ | refine sLd tb ?_ | refine sLa tb ?_ | refine sLen tb ?_ | refine sFd tb ?_ | refine sBd tb ?_ | refine sBa tb ?_); try (first | refine gl tb ?_ | refine gg tb ?_ | refine ll tb ?_ | refine lg tb ?_))
    refine sCall c68 (takes_ok 43 W3 rb s a g' hp3.rd) ?_
    rintro _ W4 ⟨rfl, hr4, hk4⟩
    have hp4 := hp3.to hk4 hr4
    clear hr4 hk4 hp3 hc
    try (first | refine gl tb ?_ | refine gg tb ?_ | refine ll tb ?_ | refine lg tb ?_); repeat ((first | refine G.condT rfl ?_ | refine G.condF rfl ?_ | refine sFa tb ?_ | refine sLd tb ?_ | refine sLa tb ?_ | refine sLen tb ?_ | refine sFd tb ?_ | refine sBd tb ?_ | refine sBa tb ?_); try (first | refine gl tb ?_ | refine gg tb ?_ | refine ll tb ?_ | refine lg tb ?_))
    first | refine G.condD rfl (fun hc => ?_) (fun hc => ?_) | refine G.condN rfl (fun hc => ?_) (fun hc => ?_) | refine G.cond rfl (fun hc => ?_) (fun hc => ?_)
    · have hc1 : Rx.isB s a 43 = true := hc
      rw [hc1] at hp4
      simp only [if_true] at hp4
      have hxx := hp4.bx
      try (first | refine gl tb ?_ | refine gg tb ?_ | refine ll tb ?_ | refine lg tb ?_); repeat ((first | refine G.condT rfl ?_ | refine G.condF rfl ?_ | refine sFa tb ?_ | refine sLd tb ?_ | refine sLa tb ?_ | refine sLen tb ?_ | refine sFd tb ?_ | refine sBd tb ?_ | refine sBa tb ?_); try (first | refine gl tb ?_ | refine gg tb ?_ | refine ll tb ?_ | refine lg tb ?_))
      refine sSf tb (fun W5 hb5 hw5 => ?_)
      have hp5 := hp4.st hw5 hb5
      clear hb5 hxx
      have hxx := hp5.bx
      try (first | refine gl tb ?_ | refine gg tb ?_ | refine ll tb ?_ | refine lg tb ?_); repeat ((first | refine G.condT rfl ?_ | refine G.condF rfl ?_ | refine sFa tb ?_ | refine sLd tb ?_ | refine sLa tb ?_ | refine sLen tb ?_ | refine sFd tb ?_ | refine sBd tb ?_ | refine sBa tb ?_); try (first | refine gl tb ?_ | refine gg tb ?_ | refine ll tb ?_ | refine lg tb ?_))
      refine sSf tb (fun W6 hb6 hw6 => ?_)
      have hp6 := hp5.st hw6 hb6
      clear hb6 hxx
      have hxx := hp6.bx
      try (first | refine gl tb ?_ | refine gg tb ?_ | refine ll tb ?_ | refine lg tb ?_); repeat ((first | refine G.condT rfl ?_ | refine G.condF rfl ?_ | refine sFa tb ?_ | refine sLd tb ?_ | refine sLa tb ?_ | refine sLen tb ?_ | refine sFd tb ?_ | refine sBd tb ?_ | refine sBa tb ?_); try (first | refine gl tb ?_ | refine gg tb ?_ | refine ll tb ?_ | refine lg tb ?_))
      refine sSf tb (fun W7 hb7 hw7 => ?_)
      have hp7 := hp6.st hw7 hb7
      try (first | refine gl tb ?_ | refine gg tb ?_ | refine ll tb ?_ | refine lg tb ?_); repeat ((first | refine G.condT rfl ?_ | refine G.condF rfl ?_ | refine sFa tb ?_ | refine sLd tb ?_ | refine sLa tb ?_ | refine sLen tb ?_ | refine sFd tb ?_ | refine sBd tb ?_ | refine sBa tb ?_); try (first | refine gl tb ?_ | refine gg tb ?_ | refine ll tb ?_ | refine lg tb ?_))
      exact G.met (1, -1, true, a + 1) (by repeat (first | exact Sub.nil _ | refine Sub.cons rfl ?_)) ⟨by unfold Rx.rept; rw [if_neg hn1, if_pos hc1], hp7, by simp only; omega, by simp only; omega, by simp only; omega⟩
    have hn2 : ¬ Rx.isB s a 43 = true := by rw [hc]; simp
    rw [if_neg hn2] at hp4
    try (first | refine gl tb ?_ | refine gg tb ?_ | refine ll tb ?_ | refine lg tb ?_); repeat ((first | refine G.condT rfl ?_ | refine G.condF rfl ?_ | refine sFa tb ?_ | refine sLd tb ?_ | refine sLa tb ?_ | refine sLen tb ?_ | refine sFd tb ?_ | refine sBd tb ?_ | refine sBa tb ?_); try (first | refine gl tb ?_ | refine gg tb ?_ | refine ll tb ?_ | refine lg tb ?_))
    refine sCall c68 (takes_ok 63 W4 rb s a g' hp4.rd) ?_
    rintro _ W5 ⟨rfl, hr5, hk5⟩
    have hp5 := hp4.to hk5 hr5
    clear hr5 hk5 hp4 hc
    try (first | refine gl tb ?_ | refine gg tb ?_ | refine ll tb ?_ | refine lg tb ?_); repeat ((first | refine G.condT rfl ?_ | refine G.condF rfl ?_ | refine sFa tb ?_ | refine sLd tb ?_ | refine sLa tb ?_ | refine sLen tb ?_ | refine sFd tb ?_ | refine sBd tb ?_ | refine sBa tb ?_); try (first | refine gl tb ?_ | refine gg tb ?_ | refine ll tb ?_ | refine lg tb ?_))
    first | refine G.condD rfl (fun hc => ?_) (fun hc => ?_) | refine G.condN rfl (fun hc => ?_) (fun hc => ?_) | refine G.cond rfl (fun hc => ?_) (fun hc => ?_)
    · have hc1 : Rx.isB s a 63 = true := hc
      rw [hc1] at hp5
      simp only [if_true] at hp5
      have hxx := hp5.bx
      try (first | refine gl tb ?_ | refine gg tb ?_ | refine ll tb ?_ | refine lg tb ?_); repeat ((first | refine G.condT rfl ?_ | refine G.condF rfl ?_ | refine sFa tb ?_ | refine sLd tb ?_ | refine sLa tb ?_ | refine sLen tb ?_ | refine sFd tb ?_ | refine sBd tb ?_ | refine sBa tb ?_); try (first | refine gl tb ?_ | refine gg tb ?_ | refine ll tb ?_ | refine lg tb ?_))
      refine sSf tb (fun W6 hb6 hw6 => ?_)
      have hp6 := hp5.st hw6 hb6
      clear hb6 hxx
      have hxx := hp6.bx
      try (first | refine gl tb ?_ | refine gg tb ?_ | refine ll tb ?_ | refine lg tb ?_); repeat ((first | refine G.condT rfl ?_ | refine G.condF rfl ?_ | refine sFa tb ?_ | refine sLd tb ?_ | refine sLa tb ?_ | refine sLen tb ?_ | refine sFd tb ?_ | refine sBd tb ?_ | refine sBa tb ?_); try (first | refine gl tb ?_ | refine gg tb ?_ | refine ll tb ?_ | refine lg tb ?_))
      refine sSf tb (fun W7 hb7 hw7 => ?_)
      have hp7 := hp6.st hw7 hb7
      try (first | refine gl tb ?_ | refine gg tb ?_ | refine ll tb ?_ | refine lg tb ?_); repeat ((first | refine G.condT rfl ?_ | refine G.condF rfl ?_ | refine sFa tb ?_ | refine sLd tb ?_ | refine sLa tb ?_ | refine sLen tb ?_ | refine sFd tb ?_ | refine sBd tb ?_ | refine sBa tb ?_); try (first | refine gl tb ?_ | refine gg tb ?_ | refine ll tb ?_ | refine lg tb ?_))
      exact G.met (0, 1, false, a + 1) (by repeat (first | exact Sub.nil _ | refine Sub.cons rfl ?_)) ⟨by unfold Rx.rept; rw [if_neg hn1, if_neg hn2, if_pos hc1], hp7, by simp only; omega, by simp only; omega, by simp only; omega⟩
    have hn3 : ¬ Rx.isB s a 63 = true := by rw [hc]; simp
    rw [if_neg hn3] at hp5
    try (first | refine gl tb ?_ | refine gg tb ?_ | refine ll tb ?_ | refine lg tb ?_); repeat ((first | refine G.condT rfl ?_ | refine G.condF rfl ?_ | refine sFa tb ?_ | refine sLd tb ?_ | refine sLa tb ?_ | refine sLen tb ?_ | refine sFd tb ?_ | refine sBd tb ?_ | refine sBa tb ?_); try (first | refine gl tb ?_ | refine gg tb ?_ | refine ll tb ?_ | refine lg tb ?_))
    refine sCall c68 (takes_ok 123 W5 rb s a g' hp5.rd) ?_
    rintro _ W6 ⟨rfl, hr6, hk6⟩
    have hp6 := hp5.to hk6 hr6
    clear hr6 hk6 hp5 hc
    try (first | refine gl tb ?_ | refine gg tb ?_ | refine ll tb ?_ | refine lg tb ?_); repeat ((first | refine G.condT rfl ?_ | refine G.condF rfl ?_ | refine sFa tb ?_ | refine sLd tb ?_ | refine sLa tb ?_ | refine sLen tb ?_ | refine sFd tb ?_ | refine sBd tb ?_ | refine sBa tb ?_); try (first | refine gl tb ?_ | refine gg tb ?_ | refine ll tb ?_ | refine lg tb ?_))
    first | refine G.condD rfl (fun hc => ?_) (fun hc => ?_) | refine G.condN rfl (fun hc => ?_) (fun hc => ?_) | refine G.cond rfl (fun hc => ?_) (fun hc => ?_)
    · have hc1 : Rx.isB s a 123 = true := hc
      rw [hc1] at hp6
      simp only [if_true] at hp6
      try (first | refine gl tb ?_ | refine gg tb ?_ | refine ll tb ?_ | refine lg tb ?_); repeat ((first | refine G.condT rfl ?_ | refine G.condF rfl ?_ | refine sFa tb ?_ | refine sLd tb ?_ | refine sLa tb ?_ | refine sLen tb ?_ | refine sFd tb ?_ | refine sBd tb ?_ | refine sBa tb ?_); try (first | refine gl tb ?_ | refine gg tb ?_ | refine ll tb ?_ | refine lg tb ?_))
      refine sCallP c90 (braces_ok W6 rb s (a + 1) g' hp6.rd) (fun ch w' hz => px_P rfl rfl ?_) ?_
      · obtain ⟨e, he, hw, hk2⟩ := hz
        exact ⟨e, by unfold Rx.rept; rw [if_neg hn1, if_neg hn2, if_neg hn3, if_pos hc1, he], hw, hp6.kp.trans hk2⟩
      rintro _ W7 ⟨mn, mx, b, hEb, rfl, hab, hmn, hmx0, hmx1, hr7, hk7⟩
      have hp7 := hp6.to hk7 hr7
      clear hr7 hk7
      have hxx := hp7.bx
      try (first | refine gl tb ?_ | refine gg tb ?_ | refine ll tb ?_ | refine lg tb ?_); repeat ((first | refine G.condT rfl ?_ | refine G.condF rfl ?_ | refine sFa tb ?_ | refine sLd tb ?_ | refine sLa tb ?_ | refine sLen tb ?_ | refine sFd tb ?_ | refine sBd tb ?_ | refine sBa tb ?_); try (first | refine gl tb ?_ | refine gg tb ?_ | refine ll tb ?_ | refine lg tb ?_))
      refine sSf tb (fun W8 hb8 hw8 => ?_)
      have hp8 := hp7.st hw8 hb8
      clear hb8 hxx
      have hxx := hp8.bx
      try (first | refine gl tb ?_ | refine gg tb ?_ | refine ll tb ?_ | refine lg tb ?_); repeat ((first | refine G.condT rfl ?_ | refine G.condF rfl ?_ | refine sFa tb ?_ | refine sLd tb ?_ | refine sLa tb ?_ | refine sLen tb ?_ | refine sFd tb ?_ | refine sBd tb ?_ | refine sBa tb ?_); try (first | refine gl tb ?_ | refine gg tb ?_ | refine ll tb ?_ | refine lg tb ?_))
      refine sSf tb (fun W9 hb9 hw9 => ?_)
      have hp9 := hp8.st hw9 hb9
      try (first | refine gl tb ?_ | refine gg tb ?_ | refine ll tb ?_ | refine lg tb ?_); repeat ((first | refine G.condT rfl ?_ | refine G.condF rfl ?_ | refine sFa tb ?_ | refine sLd tb ?_ | refine sLa tb ?_ | refine sLen tb ?_ | refine sFd tb ?_ | refine sBd tb ?_ | refine sBa tb ?_); try (first | refine gl tb ?_ | refine gg tb ?_ | refine ll tb ?_ | refine lg tb ?_))
      exact G.met (mn, mx, false, b) (by repeat (first | exact Sub.nil _ | refine Sub.cons rfl ?_)) ⟨by unfold Rx.rept; rw [if_neg hn1, if_neg hn2, if_neg hn3, if_pos hc1, hEb], hp9, by simp only; omega, by simp only; omega, by simp only; omega⟩
    have hn4 : ¬ Rx.isB s a 123 = true := by rw [hc]; simp
    rw [if_neg hn4] at hp6
    try (first | refine gl tb ?_ | refine gg tb ?_ | refine ll tb ?_ | refine lg tb ?_); repeat ((first | refine G.condT rfl ?_ | refine G.condF rfl ?_ | refine sFa tb ?_ | refine sLd tb ?_ | refine sLa tb ?_ | refine sLen tb ?_ | refine sFd tb ?_ | refine sBd tb ?_ | refine sBa tb ?_); try (first | refine gl tb ?_ | refine gg tb ?_ | refine ll tb ?_ | refine lg tb ?_))
    refine G.retP1 rfl rfl rfl rfl ?_
    have hR : Rx.rept s a = .ok none := by unfold Rx.rept; rw [if_neg hn1, if_neg hn2, if_neg hn3, if_neg hn4]
    exact ⟨t, a, g', by rw [hR], hp6.tr.same fun q hq hA => ⟨rfl, hA.1⟩, hp6.rd, hp6.kp, hia⟩
  rintro ⟨mn, mx, plus, b⟩ W3 ⟨hR, hp3, hib, hmn, hmx⟩
  simp only at hp3 hib hmn hmx ⊢
  rw [hR]
  simp only
  try (first | refine gl tb ?_ | refine gg tb ?_ | refine ll tb ?_ | refine lg tb ?_); repeat ((first | refine G.condT rfl ?_ | refine G.condF rfl ?_ | refine sFa tb ?_ | refine sLd tb ?_ | refine sLa tb ?_ | refine sLen tb ?_ | refine sFd tb ?_ | refine sBd tb ?_ | refine sBa tb ?_); try (first | refine gl tb ?_ | refine gg tb ?_ | refine ll tb ?_ | refine lg tb ?_))
  refine sCall c68 (takes_ok 63 W3 rb s b g' hp3.rd) ?_
  rintro _ W4 ⟨rfl, hr4, hk4⟩
  have hp4 := hp3.to hk4 hr4
  clear hr4 hk4
  have hxx := hp4.bx
  try (first | refine gl tb ?_ | refine gg tb ?_ | refine ll tb ?_ | refine lg tb ?_); repeat ((first | refine G.condT rfl ?_ | refine G.condF rfl ?_ | refine sFa tb ?_ | refine sLd tb ?_ | refine sLa tb ?_ | refine sLen tb ?_ | refine sFd tb ?_ | refine sBd tb ?_ | refine sBa tb ?_); try (first | refine gl tb ?_ | refine gg tb ?_ | refine ll tb ?_ | refine lg tb ?_))
  refine sSf tb (fun W5 hb5 hw5 => ?_)
  have hp5 := hp4.st hw5 hb5
  try (first | refine gl tb ?_ | refine gg tb ?_ | refine ll tb ?_ | refine lg tb ?_); repeat ((first | refine G.condT rfl ?_ | refine G.condF rfl ?_ | refine sFa tb ?_ | refine sLd tb ?_ | refine sLa tb ?_ | refine sLen tb ?_ | refine sFd tb ?_ | refine sBd tb ?_ | refine sBa tb ?_); try (first | refine gl tb ?_ | refine gg tb ?_ | refine ll tb ?_ | refine lg tb ?_))
  refine G.retP1 rfl rfl rfl rfl ?_
  have hN : Tr W5 (fun b => w.heap.size ≤ b) (.rep mn mx (Rx.isB s b 63) plus t) (ptr xb) :=
    .mk xb nilV _ [ptr ub] hp5.ge hp5.bx (RowA.nil _ _ _ _) ⟨by simp [spansT, Small], by simp [numT], hmn, hmx⟩ ⟨hp5.ow.mono (Nat.zero_le _), fun q e => (hp5.ow.lt q e).1⟩ rfl (one_kid (hp5.tr.same fun q hq hA => ⟨rfl, hA.1⟩))
  revert hN hp5
  cases Rx.isB s b 63 <;> intro hp5 hN
  · exact ⟨_, _, _, rfl, hN, hp5.rd, hp5.kp, hib⟩
  · exact ⟨_, _, _, rfl, hN, hp5.rd, hp5.kp, by omega⟩
end Go.Proofs.YtmkckngecjpklaaDoor
end
section
open Go Go.Vg Go.RowKit Go.Proofs Go.Proofs.YtmkckngecjpklaaDoor
namespace Go.Proofs.YtmkckngecjpklaaDoor
set_option linter.unusedSimpArgs false

/-- a row under way -/
structure Sq (w W : World) (rb : Nat) (s : List UInt8) (a g : Nat) (l : List Rx.T) (us : List Value) (v : Value) : Prop where
  rd : Rd W rb s a g
  kp : Kp rb w W
  lt : rb < w.heap.size
  ow : Owns W w.heap.size v 73 1 (us.map fun u => [u])
  len : us.length = l.length
  tr : ∀ (i : Nat) (t : Rx.T) (u : Value), l[i]? = some t → us[i]? = some u → Tr W (fun b => w.heap.size ≤ b ∧ v.ownBlock ≠ some b) t u
theorem Sq.to {w W W' : World} {rb : Nat} {s : List UInt8} {a a' g g' : Nat} {l : List Rx.T} {us : List Value} {v : Value} (h : Sq w W rb s a g l us v) (hk : Kp rb W W') (hr : Rd W' rb s a' g') : Sq w W' rb s a' g' l us v :=
  ⟨hr, h.kp.trans hk, h.lt, h.ow.kp hk h.lt, h.len, fun i t u h1 h2 => (h.tr i t u h1 h2).same fun q hq hA => ⟨hk.block q hq (by have := hA.1; have := h.lt; omega), hA⟩⟩
theorem Sq.ext {w W W' : World} {rb : Nat} {s : List UInt8} {a g : Nat} {l : List Rx.T} {us : List Value} {v : Value} (h : Sq w W rb s a g l us v) (hk : Ext W W') : Sq w W' rb s a g l us v := h.to hk.kp (h.rd.to hk)

set_option maxHeartbeats 4000000 in
theorem chain_ok (n : Nat) (hA : ∀ m, m < n → RepC m) : SeqC (n + 1) := by
  intro w rb s i g h hn
  have hP : Rx.parse s (n + 1) .seq i g = Rx.parse s n (.seqL []) i g := by rw [Rx.parse]
  rw [hP]
  simp only [Rx.need] at hn
  refine ret_of_GP Tryd.func67 rfl Tryd.ntmps67 rfl ?_
  simp only [argEnv]
  try (first | refine gl tb ?_ | refine gg tb ?_ | refine ll tb ?_ | refine lg tb ?_); repeat ((first | refine G.condT rfl ?_ | refine G.condF rfl ?_ | refine sFa tb ?_ | refine sLd tb ?_ | refine sLa tb ?_ | refine sLen tb ?_ | refine sFd tb ?_ | refine sBd tb ?_ | refine sBa tb ?_); try (first | refine gl tb ?_ | refine gg tb ?_ | refine ll tb ?_ | refine lg tb ?_))
  refine (G.loop (fun p : Nat × Nat × Nat × List Rx.T × List Value × Value => [(0, none, ptr rb), (3, none, p.2.2.2.2.2)])
    (fun p W => Sq w W rb s p.2.1 p.2.2.1 p.2.2.2.1 p.2.2.2.2.1 p.2.2.2.2.2 ∧ i ≤ p.2.1 ∧ p.2.2.2.1.length ≤ p.2.1 ∧ p.1 ≤ n ∧ 6 * (s.length - p.2.1) + 2 ≤ p.1 ∧ Rx.parse s p.1 (.seqL p.2.2.2.1) p.2.1 p.2.2.1 = Rx.parse s n (.seqL []) i g) (fun p => p.1)
    (n, i, g, [], [], nilV) (by repeat (first | exact Sub.nil _ | refine Sub.cons rfl ?_)) ⟨⟨h, Kp.refl _ _, h.bx.lt, Owns.nil _ _ _ _, rfl, fun i t u h1 => by simp at h1⟩, by simp, by simp, by simp, by simp only; omega, rfl⟩ ?_)
  rintro ⟨m, a, g1, l, us, v⟩ W ⟨hq, hia, hla, hmn, hma, hL⟩
  simp only at hq hia hla hmn hma hL ⊢
  obtain ⟨m, rfl⟩ : ∃ k, m = k + 1 := ⟨m - 1, by omega⟩
  rw [Rx.parse_seqL] at hL
  have hai := hq.rd.hi
  have hsz := hq.rd.hs
  try (first | refine gl tb ?_ | refine gg tb ?_ | refine ll tb ?_ | refine lg tb ?_); repeat ((first | refine G.condT rfl ?_ | refine G.condF rfl ?_ | refine sFa tb ?_ | refine sLd tb ?_ | refine sLa tb ?_ | refine sLen tb ?_ | refine sFd tb ?_ | refine sBd tb ?_ | refine sBa tb ?_); try (first | refine gl tb ?_ | refine gg tb ?_ | refine ll tb ?_ | refine lg tb ?_))
  refine sCall c49 (more_ok W rb s a g1 hq.rd) ?_
  rintro _ W1 ⟨rfl, hx1⟩
  have hq1 := hq.ext hx1
  try (first | refine gl tb ?_ | refine gg tb ?_ | refine ll tb ?_ | refine lg tb ?_); repeat ((first | refine G.condT rfl ?_ | refine G.condF rfl ?_ | refine sFa tb ?_ | refine sLd tb ?_ | refine sLa tb ?_ | refine sLen tb ?_ | refine sFd tb ?_ | refine sBd tb ?_ | refine sBa tb ?_); try (first | refine gl tb ?_ | refine gg tb ?_ | refine ll tb ?_ | refine lg tb ?_))
  refine sCallx c81 (fun hc => is_ok 124 W1 rb s a g1 hq1.rd) ?_
  intro W2 hx2
  have hq2 := hq1.ext hx2
  try (first | refine gl tb ?_ | refine gg tb ?_ | refine ll tb ?_ | refine lg tb ?_); repeat ((first | refine G.condT rfl ?_ | refine G.condF rfl ?_ | refine sFa tb ?_ | refine sLd tb ?_ | refine sLa tb ?_ | refine sLen tb ?_ | refine sFd tb ?_ | refine sBd tb ?_ | refine sBa tb ?_); try (first | refine gl tb ?_ | refine gg tb ?_ | refine ll tb ?_ | refine lg tb ?_))
  refine sCallx c81 (fun hc => is_ok 41 W2 rb s a g1 hq2.rd) ?_
  intro W3 hx3
  have hq3 := hq2.ext hx3
  try (first | refine gl tb ?_ | refine gg tb ?_ | refine ll tb ?_ | refine lg tb ?_); repeat ((first | refine G.condT rfl ?_ | refine G.condF rfl ?_ | refine sFa tb ?_ | refine sLd tb ?_ | refine sLa tb ?_ | refine sLen tb ?_ | refine sFd tb ?_ | refine sBd tb ?_ | refine sBa tb ?_); try (first | refine gl tb ?_ | refine gg tb ?_ | refine ll tb ?_ | refine lg tb ?_))
  clear hq hq1 hq2 hx1 hx2 hx3
  have hccE : (decide (a < s.length) && !Rx.isB s a 124 && !Rx.isB s a 41) = true ↔ (a < s.length ∧ ¬ Rx.isB s a 124 = true ∧ ¬ Rx.isB s a 41 = true) := by
    simp only [Bool.and_eq_true, decide_eq_true_eq, Bool.not_eq_true', Bool.not_eq_true, and_assoc]
  first | refine G.condD rfl (fun hc => ?_) (fun hc => ?_) | refine G.condN rfl (fun hc => ?_) (fun hc => ?_) | refine G.cond rfl (fun hc => ?_) (fun hc => ?_)
  · have hcc := hccE.1 hc
    rw [if_pos hcc] at hL
    clear hc hccE
    try (first | refine gl tb ?_ | refine gg tb ?_ | refine ll tb ?_ | refine lg tb ?_); repeat ((first | refine G.condT rfl ?_ | refine G.condF rfl ?_ | refine sFa tb ?_ | refine sLd tb ?_ | refine sLa tb ?_ | refine sLen tb ?_ | refine sFd tb ?_ | refine sBd tb ?_ | refine sBa tb ?_); try (first | refine gl tb ?_ | refine gg tb ?_ | refine ll tb ?_ | refine lg tb ?_))
    refine sCallP c82 (hA m (by omega) W3 rb s a g1 hq3.rd (by simp only [Rx.need]; omega)) (fun ch w' hz => px_P rfl rfl ?_) ?_
    · obtain ⟨e, he, hw, hk⟩ := hz
      exact ⟨e, by rw [← hL, he], hw, hq3.kp.trans hk⟩
    rintro u W4 ⟨t, b, g2, hE, hT, hr4, hk4, hab⟩
    rw [hE] at hL
    simp only at hL
    obtain ⟨ub, rfl⟩ := hT.isPtr
    have hq4 := hq3.to hk4 hr4
    have hbs := hr4.hi
    try (first | refine gl tb ?_ | refine gg tb ?_ | refine ll tb ?_ | refine lg tb ?_); repeat ((first | refine G.condT rfl ?_ | refine G.condF rfl ?_ | refine sFa tb ?_ | refine sLd tb ?_ | refine sLa tb ?_ | refine sLen tb ?_ | refine sFd tb ?_ | refine sBd tb ?_ | refine sBa tb ?_); try (first | refine gl tb ?_ | refine gg tb ?_ | refine ll tb ?_ | refine lg tb ?_))
    refine sBs' tb [[ptr ub]] (fun ks W5 ho5 hs5 hx5 => ?_)
    have hq5 := hq4.ext hx5
    have hlen : (us.map fun u => [u]).length = l.length := by rw [List.length_map, hq5.len]
    have hsz5 := hq5.kp.size
    try (first | refine gl tb ?_ | refine gg tb ?_ | refine ll tb ?_ | refine lg tb ?_); repeat ((first | refine G.condT rfl ?_ | refine G.condF rfl ?_ | refine sFa tb ?_ | refine sLd tb ?_ | refine sLa tb ?_ | refine sLen tb ?_ | refine sFd tb ?_ | refine sBd tb ?_ | refine sBa tb ?_); try (first | refine gl tb ?_ | refine gg tb ?_ | refine ll tb ?_ | refine lg tb ?_))
    refine sApp2 tb hq5.ow ho5.sli (fun v' W6 hv6 hg6 ho6 => ?_) (hb := by rw [hlen]; simp only [List.length_cons, List.length_nil]; omega) (hl := by rw [hlen]; simp only [List.length_cons, List.length_nil]; omega)
    try (first | refine gl tb ?_ | refine gg tb ?_ | refine ll tb ?_ | refine lg tb ?_); repeat ((first | refine G.condT rfl ?_ | refine G.condF rfl ?_ | refine sFa tb ?_ | refine sLd tb ?_ | refine sLa tb ?_ | refine sLen tb ?_ | refine sFd tb ?_ | refine sBd tb ?_ | refine sBa tb ?_); try (first | refine gl tb ?_ | refine gg tb ?_ | refine ll tb ?_ | refine lg tb ?_))
    have hown : ∀ q, v.ownBlock = some q → w.heap.size ≤ q ∧ q < W3.heap.size := hq3.ow.lt
    have hst : ∀ q, q < W5.heap.size → v.ownBlock ≠ some q → W6.heap[q]? = W5.heap[q]? ∧ v'.ownBlock ≠ some q := fun q hq hne =>
      ⟨hg6.block q hq fun e => hne e.symm, hq5.ow.own2 ho6 hq hne⟩
    have hT5 := hT.ext hx5
    have hq6 : Sq w W6 rb s b g2 (l ++ [t]) (us ++ [ptr ub]) v' := by
      refine ⟨hq5.rd.kp hg6.kp ?_, hq5.kp.grew hg6 (fun q e => (hown q e).1) (Nat.le_refl _), hq5.lt, by rw [List.map_append]; exact hv6, by simp [hq5.len], ?_⟩
      · rcases ho : v.ownBlock with _ | q
        · have := hq5.rd.bx.lt; simpa using this
        · have := (hown q ho).1; have := hq5.lt; simp only [Option.getD_some]; omega
      · intro i t' u' h1 h2
        by_cases hi : i < l.length
        · rw [List.getElem?_append_left hi] at h1
          rw [List.getElem?_append_left (by rw [hq5.len]; exact hi)] at h2
          exact (hq5.tr i t' u' h1 h2).same fun q hq hA => ⟨(hst q hq hA.2).1, hA.1, (hst q hq hA.2).2⟩
        · rw [List.getElem?_append_right (by omega)] at h1
          rw [List.getElem?_append_right (by rw [hq5.len]; omega), hq5.len] at h2
          refine (one_kid hT5 (i - l.length) t' u' h1 h2).same fun q hq hA => ?_
          have hA : W3.heap.size ≤ q := hA
          have hne : v.ownBlock ≠ some q := fun e => by have := (hown q e).2; omega
          exact ⟨(hst q hq hne).1, by have := hq3.kp.size; omega, (hst q hq hne).2⟩
    exact G.lp (x := (m + 1, a, g1, l, us, v)) (m, b, g2, l ++ [t], us ++ [ptr ub], v') (by repeat (first | exact Sub.nil _ | refine Sub.cons rfl ?_)) ⟨hq6, by simp only; omega, by simp only [List.length_append, List.length_cons, List.length_nil]; omega, by simp only; omega, by simp only; omega, hL⟩ (by simp only; omega)
  · have hcc : ¬ (a < s.length ∧ ¬ Rx.isB s a 124 = true ∧ ¬ Rx.isB s a 41 = true) := fun h2 => by rw [hccE.2 h2] at hc; cases hc
    rw [if_neg hcc] at hL
    clear hc hccE
    have hlen : (us.map fun u => [u]).length = l.length := by rw [List.length_map, hq3.len]
    have hvs := hq3.ow.sli
    try (first | refine gl tb ?_ | refine gg tb ?_ | refine ll tb ?_ | refine lg tb ?_); repeat ((first | refine G.condT rfl ?_ | refine G.condF rfl ?_ | refine sFa tb ?_ | refine sLd tb ?_ | refine sLa tb ?_ | refine sLen tb ?_ | refine sFd tb ?_ | refine sBd tb ?_ | refine sBa tb ?_); try (first | refine gl tb ?_ | refine gg tb ?_ | refine ll tb ?_ | refine lg tb ?_))
    rw [hlen]
    try (first | refine gl tb ?_ | refine gg tb ?_ | refine ll tb ?_ | refine lg tb ?_); repeat ((first | refine G.condT rfl ?_ | refine G.condF rfl ?_ | refine sFa tb ?_ | refine sLd tb ?_ | refine sLa tb ?_ | refine sLen tb ?_ | refine sFd tb ?_ | refine sBd tb ?_ | refine sBa tb ?_); try (first | refine gl tb ?_ | refine gg tb ?_ | refine ll tb ?_ | refine lg tb ?_))
    first | refine G.condD rfl (fun hc => ?_) (fun hc => ?_) | refine G.condN rfl (fun hc => ?_) (fun hc => ?_) | refine G.cond rfl (fun hc => ?_) (fun hc => ?_)
    · have hl0 : l = [] := List.length_eq_zero_iff.1 (by omega)
      subst hl0
      rw [if_pos rfl] at hL
      try (first | refine gl tb ?_ | refine gg tb ?_ | refine ll tb ?_ | refine lg tb ?_); repeat ((first | refine G.condT rfl ?_ | refine G.condF rfl ?_ | refine sFa tb ?_ | refine sLd tb ?_ | refine sLa tb ?_ | refine sLen tb ?_ | refine sFd tb ?_ | refine sBd tb ?_ | refine sBa tb ?_); try (first | refine gl tb ?_ | refine gg tb ?_ | refine ll tb ?_ | refine lg tb ?_))
      refine sBox (fun W4 hb4 hs4 hx4 => ?_)
      try (first | refine gl tb ?_ | refine gg tb ?_ | refine ll tb ?_ | refine lg tb ?_); repeat ((first | refine G.condT rfl ?_ | refine G.condF rfl ?_ | refine sFa tb ?_ | refine sLd tb ?_ | refine sLa tb ?_ | refine sLen tb ?_ | refine sFd tb ?_ | refine sBd tb ?_ | refine sBa tb ?_); try (first | refine gl tb ?_ | refine gg tb ?_ | refine ll tb ?_ | refine lg tb ?_))
      refine G.retP1 rfl rfl rfl rfl ?_
      exact ⟨.emp, a, g1, hL.symm, .mk W3.heap.size nilV nilV [] hq3.kp.size hb4 (RowA.nil _ _ _ _) (by simp [TrB, spansT, Small, numT, mnT, mxT]) (RowA.nil _ _ _ _) rfl (fun i t' u h1 => by simp [kidsT] at h1), hq3.rd.to hx4, hq3.kp.trans hx4.kp, hia⟩
    · have hl0 : l ≠ [] := fun e => by subst e; simp at hc
      rw [if_neg hl0] at hL
      obtain ⟨va, vc, hve, _⟩ := hvs.len
      subst hve
      try (first | refine gl tb ?_ | refine gg tb ?_ | refine ll tb ?_ | refine lg tb ?_); repeat ((first | refine G.condT rfl ?_ | refine G.condF rfl ?_ | refine sFa tb ?_ | refine sLd tb ?_ | refine sLa tb ?_ | refine sLen tb ?_ | refine sFd tb ?_ | refine sBd tb ?_ | refine sBa tb ?_); try (first | refine gl tb ?_ | refine gg tb ?_ | refine ll tb ?_ | refine lg tb ?_))
      refine sBox (fun W4 hb4 hs4 hx4 => ?_)
      try (first | refine gl tb ?_ | refine gg tb ?_ | refine ll tb ?_ | refine lg tb ?_); repeat ((first | refine G.condT rfl ?_ | refine G.condF rfl ?_ | refine sFa tb ?_ | refine sLd tb ?_ | refine sLa tb ?_ | refine sLen tb ?_ | refine sFd tb ?_ | refine sBd tb ?_ | refine sBa tb ?_); try (first | refine gl tb ?_ | refine gg tb ?_ | refine ll tb ?_ | refine lg tb ?_))
      refine G.retP1 rfl rfl rfl rfl ?_
      have hq4 := hq3.ext hx4
      exact ⟨.seq l, a, g1, hL.symm, .mk W3.heap.size nilV _ us hq3.kp.size hb4 (RowA.nil _ _ _ _) (by simp [TrB, spansT, Small, numT, mnT, mxT]) ⟨hq4.ow.mono (Nat.zero_le _), fun q e => (hq4.ow.lt q e).1⟩ hq4.len (fun i t' u h1 h2 => (hq4.tr i t' u h1 h2).same fun q hq hA => ⟨rfl, hA.1⟩), hq4.rd, hq4.kp, hia⟩

set_option maxHeartbeats 4000000 in
theorem either_ok (n : Nat) (hA : ∀ m, m ≤ n → SeqC m) : AltC (n + 1) := by
  intro w rb s i g h hn
  simp only [Rx.need] at hn
  have hP : ∀ e, Rx.parse s n .seq i g = .error e → Rx.parse s (n + 1) .alt i g = .error e := fun e he => by rw [Rx.parse, he]
  have hP2 : ∀ t a g', Rx.parse s n .seq i g = .ok (t, a, g') → Rx.parse s (n + 1) .alt i g = Rx.parse s n (.altL t) a g' := fun t a g' he => by rw [Rx.parse, he]
  refine ret_of_GP Tryd.func48 rfl Tryd.ntmps48 rfl ?_
  simp only [argEnv]
  try (first | refine gl tb ?_ | refine gg tb ?_ | refine ll tb ?_ | refine lg tb ?_); repeat ((first | refine G.condT rfl ?_ | refine G.condF rfl ?_ | refine sFa tb ?_ | refine sLd tb ?_ | refine sLa tb ?_ | refine sLen tb ?_ | refine sFd tb ?_ | refine sBd tb ?_ | refine sBa tb ?_); try (first | refine gl tb ?_ | refine gg tb ?_ | refine ll tb ?_ | refine lg tb ?_))
  refine sCallP c67 (hA n (Nat.le_refl _) w rb s i g h (by simp only [Rx.need]; omega)) (fun ch w' hz => px_P rfl rfl ?_) ?_
  · obtain ⟨e, he, hw, hk⟩ := hz
    exact ⟨e, hP e he, hw, hk⟩
  rintro v W ⟨t0, a0, g0, hE, hT0, hr0, hk0, hia0⟩
  rw [hP2 _ _ _ hE]
  try (first | refine gl tb ?_ | refine gg tb ?_ | refine ll tb ?_ | refine lg tb ?_); repeat ((first | refine G.condT rfl ?_ | refine G.condF rfl ?_ | refine sFa tb ?_ | refine sLd tb ?_ | refine sLa tb ?_ | refine sLen tb ?_ | refine sFd tb ?_ | refine sBd tb ?_ | refine sBa tb ?_); try (first | refine gl tb ?_ | refine gg tb ?_ | refine ll tb ?_ | refine lg tb ?_))
  refine (G.loop (fun p : Nat × Nat × Nat × Rx.T × Value => [(0, none, ptr rb), (3, none, p.2.2.2.2)])
    (fun p W => Rd W rb s p.2.1 p.2.2.1 ∧ Kp rb w W ∧ Tr W (fun b => w.heap.size ≤ b) p.2.2.2.1 p.2.2.2.2 ∧ i ≤ p.2.1 ∧ p.1 ≤ n ∧ 6 * (s.length - p.2.1) + 1 ≤ p.1 ∧ Rx.parse s p.1 (.altL p.2.2.2.1) p.2.1 p.2.2.1 = Rx.parse s n (.altL t0) a0 g0) (fun p => p.1)
    (n, a0, g0, t0, v) (by repeat (first | exact Sub.nil _ | refine Sub.cons rfl ?_)) ⟨hr0, hk0, hT0, hia0, by simp, by simp only; omega, rfl⟩ ?_)
  rintro ⟨m, a, g1, t, u⟩ W1 ⟨hr1, hk1, hT1, hia, hmn, hma, hL⟩
  simp only at hr1 hk1 hT1 hia hmn hma hL ⊢
  obtain ⟨m, rfl⟩ : ∃ k, m = k + 1 := ⟨m - 1, by omega⟩
  rw [Rx.parse_altL] at hL
  obtain ⟨ub, rfl⟩ := hT1.isPtr
  have hlt := h.bx.lt
  try (first | refine gl tb ?_ | refine gg tb ?_ | refine ll tb ?_ | refine lg tb ?_); repeat ((first | refine G.condT rfl ?_ | refine G.condF rfl ?_ | refine sFa tb ?_ | refine sLd tb ?_ | refine sLa tb ?_ | refine sLen tb ?_ | refine sFd tb ?_ | refine sBd tb ?_ | refine sBa tb ?_); try (first | refine gl tb ?_ | refine gg tb ?_ | refine ll tb ?_ | refine lg tb ?_))
  refine sCall c68 (takes_ok 124 W1 rb s a g1 hr1) ?_
  rintro _ W2 ⟨rfl, hr2, hk2⟩
  have hT2 := hT1.kp hk2 hlt
  have hk2' := hk1.trans hk2
  try (first | refine gl tb ?_ | refine gg tb ?_ | refine ll tb ?_ | refine lg tb ?_); repeat ((first | refine G.condT rfl ?_ | refine G.condF rfl ?_ | refine sFa tb ?_ | refine sLd tb ?_ | refine sLa tb ?_ | refine sLen tb ?_ | refine sFd tb ?_ | refine sBd tb ?_ | refine sBa tb ?_); try (first | refine gl tb ?_ | refine gg tb ?_ | refine ll tb ?_ | refine lg tb ?_))
  first | refine G.condD rfl (fun hc => ?_) (fun hc => ?_) | refine G.condN rfl (fun hc => ?_) (fun hc => ?_) | refine G.cond rfl (fun hc => ?_) (fun hc => ?_)
  · have hc1 : Rx.isB s a 124 = true := hc
    rw [hc1] at hr2
    rw [if_pos hc1] at hL
    simp only [if_true] at hr2
    have := Rx.isB_lt hc1
    try (first | refine gl tb ?_ | refine gg tb ?_ | refine ll tb ?_ | refine lg tb ?_); repeat ((first | refine G.condT rfl ?_ | refine G.condF rfl ?_ | refine sFa tb ?_ | refine sLd tb ?_ | refine sLa tb ?_ | refine sLen tb ?_ | refine sFd tb ?_ | refine sBd tb ?_ | refine sBa tb ?_); try (first | refine gl tb ?_ | refine gg tb ?_ | refine ll tb ?_ | refine lg tb ?_))
    refine sCallP c67 (hA m (by omega) W2 rb s (a + 1) g1 hr2 (by simp only [Rx.need]; omega)) (fun ch w' hz => px_P rfl rfl ?_) ?_
    · obtain ⟨e, he, hw, hk⟩ := hz
      exact ⟨e, by rw [← hL, he], hw, hk2'.trans hk⟩
    rintro v3 W3 ⟨t3, a3, g3, hE3, hT3, hr3, hk3, hia3⟩
    rw [hE3] at hL
    simp only at hL
    obtain ⟨ub3, rfl⟩ := hT3.isPtr
    have hT23 := hT2.kp hk3 hlt
    have hk3' := hk2'.trans hk3
    try (first | refine gl tb ?_ | refine gg tb ?_ | refine ll tb ?_ | refine lg tb ?_); repeat ((first | refine G.condT rfl ?_ | refine G.condF rfl ?_ | refine sFa tb ?_ | refine sLd tb ?_ | refine sLa tb ?_ | refine sLen tb ?_ | refine sFd tb ?_ | refine sBd tb ?_ | refine sBa tb ?_); try (first | refine gl tb ?_ | refine gg tb ?_ | refine ll tb ?_ | refine lg tb ?_))
    refine sBs' tb [[ptr ub], [ptr ub3]] (fun ks W4 ho4 hs4 hx4 => ?_)
    obtain ⟨va, vc, hve, _⟩ := ho4.sli.len
    subst hve
    try (first | refine gl tb ?_ | refine gg tb ?_ | refine ll tb ?_ | refine lg tb ?_); repeat ((first | refine G.condT rfl ?_ | refine G.condF rfl ?_ | refine sFa tb ?_ | refine sLd tb ?_ | refine sLa tb ?_ | refine sLen tb ?_ | refine sFd tb ?_ | refine sBd tb ?_ | refine sBa tb ?_); try (first | refine gl tb ?_ | refine gg tb ?_ | refine ll tb ?_ | refine lg tb ?_))
    refine sBox (fun W5 hb5 hs5 hx5 => ?_)
    have hx45 := hx4.trans hx5
    have hs2 := hk2'.size
    have hs3 := hk3'.size
    have hN : Tr W5 (fun b => w.heap.size ≤ b) (.alt t t3) (ptr W4.heap.size) := .mk W4.heap.size nilV _ [ptr ub, ptr ub3] (by have := hx4.size; show w.heap.size ≤ W4.heap.size; omega) hb5 (RowA.nil _ _ _ _) (by simp [TrB, spansT, Small, numT, mnT, mxT])
      ⟨(ho4.to hx5).mono (Nat.zero_le _), fun q e => by have := (ho4.lt q e).1; show w.heap.size ≤ q; omega⟩ rfl (fun i t' u' h1 h2 => by
        rcases i with _ | _ | i
        · simp only [kidsT, List.getElem?_cons_zero, Option.some.injEq] at h1 h2
          subst h1 h2
          exact hT23.ext hx45
        · simp only [kidsT, List.getElem?_cons_succ, List.getElem?_cons_zero, Option.some.injEq] at h1 h2
          subst h1 h2
          exact (hT3.ext hx45).same fun q hq hA => ⟨rfl, Nat.le_trans hs2 hA⟩
        · simp [kidsT] at h1)
    have hr5 := hr3.to hx45
    try (first | refine gl tb ?_ | refine gg tb ?_ | refine ll tb ?_ | refine lg tb ?_); repeat ((first | refine G.condT rfl ?_ | refine G.condF rfl ?_ | refine sFa tb ?_ | refine sLd tb ?_ | refine sLa tb ?_ | refine sLen tb ?_ | refine sFd tb ?_ | refine sBd tb ?_ | refine sBa tb ?_); try (first | refine gl tb ?_ | refine gg tb ?_ | refine ll tb ?_ | refine lg tb ?_))
    exact G.lp (x := (m + 1, a, g1, t, ptr ub)) (m, a3, g3, .alt t t3, ptr W4.heap.size) (by repeat (first | exact Sub.nil _ | refine Sub.cons rfl ?_)) ⟨hr5, hk3'.trans hx45.kp, hN, by simp only; omega, by simp only; omega, by simp only; omega, hL⟩ (by simp only; omega)
  · have hc1 : ¬ Rx.isB s a 124 = true := by rw [hc]; simp
    rw [if_neg hc1] at hr2 hL
    try (first | refine gl tb ?_ | refine gg tb ?_ | refine ll tb ?_ | refine lg tb ?_); repeat ((first | refine G.condT rfl ?_ | refine G.condF rfl ?_ | refine sFa tb ?_ | refine sLd tb ?_ | refine sLa tb ?_ | refine sLen tb ?_ | refine sFd tb ?_ | refine sBd tb ?_ | refine sBa tb ?_); try (first | refine gl tb ?_ | refine gg tb ?_ | refine ll tb ?_ | refine lg tb ?_))
    refine G.retP1 rfl rfl rfl rfl ?_
    exact ⟨t, a, g1, hL.symm, hT2, hr2, hk2', hia⟩

theorem thing0 : ThingC 0 := by
  intro w rb s i g h hn
  have hi : s.length - i ≤ 0 := by simp only [Rx.need] at hn; omega
  have hE : Rx.parse s 0 .thing i g = .error i := by rw [Rx.parse]
  have := h.hi
  have hbx := h.bx
  unfold rdC at hbx
  rw [hE]
  refine ret_of_GP Tryd.func89 rfl Tryd.ntmps89 rfl ?_
  simp only [argEnv]
  try (first | refine gl tb ?_ | refine gg tb ?_ | refine ll tb ?_ | refine lg tb ?_); repeat ((first | refine G.condT rfl ?_ | refine G.condF rfl ?_ | refine sFa tb ?_ | refine sLd tb ?_ | refine sLa tb ?_ | refine sLen tb ?_ | refine sFd tb ?_ | refine sBd tb ?_ | refine sBa tb ?_); try (first | refine gl tb ?_ | refine gg tb ?_ | refine ll tb ?_ | refine lg tb ?_))
  refine sCallP c93 (char_ok w rb s i g h) (fun ch w' hz => px_P rfl rfl ?_) ?_
  · exact ⟨i, rfl, hz.2.1, hz.2.2⟩
  rintro _ W ⟨hlt, _⟩
  omega
theorem reader_ok : ∀ n, AltC n ∧ SeqC n ∧ RepC n ∧ ThingC n := by
  intro n
  induction n using Nat.strongRecOn with
  | ind n ih =>
    cases n with
    | zero =>
      exact ⟨fun w rb s i g h hn => by simp [Rx.need] at hn, fun w rb s i g h hn => by simp [Rx.need] at hn, fun w rb s i g h hn => by simp [Rx.need] at hn, thing0⟩
    | succ n => exact ⟨either_ok n fun m hm => (ih m (by omega)).2.1, chain_ok n fun m hm => (ih m (by omega)).2.2.1, rep_ok n (ih n (by omega)).2.2.2, thing_ok n (ih n (by omega)).1⟩
end Go.Proofs.YtmkckngecjpklaaDoor
end
section
namespace Go.Vg
open Go.RowKit

theorem ret_of_GDf {P : Program} {f : FuncId} {fn : Func} {c : Code} {vs : List Value} {w : World} {R : Value → World → Prop} {n : Nat}
    (hf : P.funcs[f]? = some fn) (hb : fn.body = some c) (hn : fn.ntmps = n) (hl : Nat.ble vs.length n = true)
    (h : G ⟨none, P, bodyPostD P fn fun en w' => ∃ v, en = .returned v ∧ R v w', n, []⟩ [.code c] (argEnv 0 vs) w) : Ret P f ⟨vs⟩ w R := by
  refine calls_of_wp_defers hf hb ?_
  have h1 := h _ (fits_start hn (by simpa using hl))
  refine wpIn_wide (n := 0) |>.1 ?_
  refine wpIn_mono h1 ?_
  intro ex a w' hq
  cases ex <;> exact hq

section
variable {X : Cx} {ops : Array Oper} {e : Env} {w : World} {d : Nat} {c : Option Bool} {ty : TypeId} {pos : String} {af : Array Edge} {g : Option (Nat × Bool)} {l : List Oper} {k : List Kt}

/-- the last of a region lays a deferred call -/
theorem GL.deferL {f : FuncId} {cap : List Value} {s : Nat} (hρ : X.ρ = none) (hg : guardE ops e ⟨none, .defer { callee := .value (.tmp s), args := #[], argTypes := #[] }, ty, pos, af, g⟩ = some none)
    (hx : Op1 e none (.tmp s) (.func (.func f) #[] ⟨cap⟩)) (h : G ⟨X.ρ, X.P, X.fin, X.n, { target := .fn (.func f) ⟨cap⟩, args := #[] } :: X.ds⟩ k e w) :
    GL X ops [⟨none, .defer { callee := .value (.tmp s), args := #[], argTypes := #[] }, ty, pos, af, g⟩] k e w := by
  intro t hf
  simp only [wpL]
  rw [guardE_wanted hf hg, if_pos (by rfl)]
  refine ⟨fun _ _ => trivial, ?_⟩
  have hv : (Act.mk t X.ds).eval (.tmp s) = .func (.func f) #[] ⟨cap⟩ := hx.val hf rfl
  have hr : (Oper.semAt (FW X.ρ).round (Act.mk t X.ds).eval ⟨none, .defer { callee := .value (.tmp s), args := #[], argTypes := #[] }, ty, pos, af, g⟩).run X.P w = .ok (.defer { target := .fn (.func f) ⟨cap⟩, args := #[] }) w := by
    rw [hρ]
    have : (FW (none : Option Nat)).round = none := rfl
    rw [this, Oper.semAt_none]
    simp [execOp, resolve, hv, Deferred.ofValue, Sem.run_bind, Sem.run_pure]
  rw [hr]
  exact h t hf
/-- a call that may panic, with what the frame holds then -/
theorem GL.callPk {f : FuncId} {args : Array Operand} {ats : Array TypeId} {lo : List Operand} {vs : List Value} {S : Value → World → Prop} {Z : List PanicEntry → World → Prop}
    (hf : Callable X.P f) (hc : RetP X.P f ⟨vs⟩ w S Z) (hz : ∀ ch w' t, Fits X.n e t → Z ch w' → X.fin (.panic ch) ⟨t, X.ds⟩ w') (h : ∀ v w', S v w' → GL X ops l k ((d, none, v) :: e) w')
    (hg : guardE ops e ⟨some d, .call { callee := .value (.func f), args := args, argTypes := ats }, ty, pos, af, g⟩ = some none := by exact rfl)
    (ha : args = ⟨lo⟩ := by exact rfl) (hvs : evs e lo = some vs := by exact rfl) (hn : Nat.blt d X.n = true := by exact rfl) :
    GL X ops (⟨some d, .call { callee := .value (.func f), args := args, argTypes := ats }, ty, pos, af, g⟩ :: l) k e w := by
  intro t hft
  simp only [wpL]
  rw [guardE_wanted hft hg, if_pos (by rfl)]
  refine ⟨fun _ _ => trivial, ?_⟩
  rw [Oper.semAt_eq _ _ _ (fun _ hh => by cases hh)]
  have := evs_map (ds := X.ds) hft hvs
  subst ha
  have h2 : (Array.mk lo).map (Act.mk t X.ds).eval = ⟨vs⟩ := by simp [this]
  have hrun : (execOp (Act.mk t X.ds).eval ⟨some d, .call { callee := .value (.func f), args := ⟨lo⟩, argTypes := ats }, ty, pos, af, g⟩).run X.P w = .ok (.enter f ⟨vs⟩) w := by
    simp only [execOp, resolve, h2, Act.eval, Deferred.ofValue, Sem.run_bind, Sem.run_pure, Result.andThen_ok, invoke, Array.empty_append, Array.append_empty, run_callFunc hf]
  show Oper.uponIn _ _ _ _ _ _ _ ((execOp (Act.mk t X.ds).eval _).run X.P w)
  rw [hrun]
  refine ⟨fun h => by simp [Fence.wide] at h, callsW (Calls.mono hc ?_)⟩
  rintro en w' (⟨v, rfl, hS⟩ | ⟨ch, rfl, hZ⟩)
  · exact h v w' hS _ (hft.put (by simpa [Nat.blt_eq] using hn) none v)
  · exact post_panic (hz ch w' t hft hZ)
end

/-- the deferred closure, at a return -/
theorem leaves_ret {P : Program} {fn : Func} {t : Array Value} {f : FuncId} {cap : List Value} {w : World} {R : Value → World → Prop} {S : World → Prop} (hf : Callable P f)
    (hc : CallsD P f ⟨cap⟩ .returning w fun en u w' => en = .returned (.tuple #[]) ∧ u = .returning ∧ S w') (h : ∀ w', S w' → ∃ v, (results fn t).run P w' = .ok v w' ∧ R v w') :
    Leaves P fn t (fun en w' => ∃ v, en = .returned v ∧ R v w') [{ target := .fn (.func f) ⟨cap⟩, args := #[] }] .returning w := by
  refine leaves_cons (f := f) (args := ⟨cap⟩) (by simp) (by simp [invoke, run_callFunc hf]) ?_
  refine hc.mono ?_
  rintro en u w' ⟨rfl, rfl, hS⟩
  obtain ⟨v, hr, hR⟩ := h w' hS
  exact ⟨v, hr, v, rfl, hR⟩
/-- the deferred closure, at a panic that it catches -/
theorem leaves_panic {P : Program} {fn : Func} {t : Array Value} {f : FuncId} {cap : List Value} {w : World} {R : Value → World → Prop} {S : World → Prop} {v0 : Value} (hf : Callable P f)
    (hc : CallsD P f ⟨cap⟩ (.panicking [{ v := v0, recovered := false }]) w fun en u w' => en = .returned (.tuple #[]) ∧ u = .panicking [{ v := v0, recovered := true }] ∧ S w') (h : ∀ w', S w' → ∃ v, (results fn t).run P w' = .ok v w' ∧ R v w') :
    Leaves P fn t (fun en w' => ∃ v, en = .returned v ∧ R v w') [{ target := .fn (.func f) ⟨cap⟩, args := #[] }] (.panicking [{ v := v0, recovered := false }]) w := by
  refine leaves_cons (f := f) (args := ⟨cap⟩) (by simp) (by simp [invoke, run_callFunc hf]) ?_
  refine hc.mono ?_
  rintro en u w' ⟨rfl, rfl, hS⟩
  obtain ⟨v, hr, hR⟩ := h w' hS
  exact ⟨v, hr, v, rfl, hR⟩

def catchFin (S : World → Prop) : Exit → Act → World → Prop
  | .normal, a, w => a.defers = [] ∧ S w
  | .ret, a, w => a.defers = [] ∧ S w
  | _, _, _ => False
theorem G.endCatch {X : Cx} {e : Env} {w : World} {S : World → Prop} (hX : X.fin = catchFin S) (hd : X.ds = []) (h : S w) : G X [] e w := by
  refine G.nil fun t _ => ?_
  rw [hX, hd]
  exact ⟨rfl, h⟩
theorem calls_catch {P : Program} {f : FuncId} {fn : Func} {id : Nat} {rest : Code} {d : Nat} {ty : TypeId} {pos : String} {vs : List Value} {w : World} {S : World → Prop} {n : Nat} {u u' : FrameMode} {v : Value}
    (hf : P.funcs[f]? = some fn) (hb : fn.body = some (.seq (.region id #[⟨some d, .call { callee := .builtin .recover, args := #[], argTypes := #[] }, ty, pos, #[], none⟩] false) rest)) (hn : fn.ntmps = n) (hl : Nat.ble vs.length n = true) (hd : Nat.blt d n = true) (hr : fn.results = #[])
    (hu : ∀ (c : Frame) (cs : List Frame), c.mode = u → (match recoverD (c :: cs) with | some (x, cs') => x = v ∧ cs' = { c with mode := u' } :: cs | none => v = .nilIface ∧ u' = u))
    (h : G ⟨none, P, catchFin S, n, []⟩ [.code rest] ((d, none, v) :: argEnv 0 vs) w) : CallsD P f ⟨vs⟩ u w fun en m w' => en = .returned (.tuple #[]) ∧ m = u' ∧ S w' := by
  refine callsD_of_wpS hf hb fun c₀ cs hm => ?_
  refine wpS_seq (wpS_region ?_)
  have hfit := (fits_start (vs := vs) hn (by simpa using hl)).put (d := d) (by simpa [Nat.blt_eq] using hd) none v
  have h1 := (wpIn_wide (n := 0)).1 (wpIn_mono (h _ hfit) (Q' := fun ex a w' => bodyPostS P fn c₀ cs (fun en m w' => en = .returned (.tuple #[]) ∧ m = u' ∧ S w') ex a ({ c₀ with mode := u' } :: cs) w') (by
    intro ex a w' hq
    cases ex
    case normal => exact ⟨hq.1, u', rfl, .tuple #[], results_none hr _ _ _, rfl, rfl, hq.2⟩
    case ret => exact ⟨hq.1, u', rfl, .tuple #[], results_none hr _ _ _, rfl, rfl, hq.2⟩
    all_goals exact hq.elim))
  have h2 := wpS_of_wp h1
  have hrun : ∀ a : Act, (execOp a.eval ⟨some d, .call { callee := .builtin .recover, args := #[], argTypes := #[] }, ty, pos, #[], none⟩).run P w = .ok .recover w := fun a => by
    simp [execOp, resolve, invoke]
    rfl
  have hrange : List.range (#[(⟨some d, .call { callee := .builtin .recover, args := #[], argTypes := #[] }, ty, pos, #[], none⟩ : Oper)]).size = [0] := rfl
  rw [hrange]
  simp only [wpOpsS, List.getElem?_toArray, List.getElem?_cons_zero, Region.wanted, if_true, hrun]
  have hu := hu c₀ cs hm
  split at hu
  · rename_i x cs' hx
    obtain ⟨rfl, rfl⟩ := hu
    rw [hx]
    exact h2
  · rename_i hx
    obtain ⟨rfl, rfl⟩ := hu
    rw [hx]
    have : ({ c₀ with mode := u' } : Frame) = c₀ := by rw [← hm]
    rw [this] at h2
    exact h2
end Go.Vg
end
section
namespace Go.Vg
open Go.RowKit
section
variable {X : Cx} {ops : Array Oper} {l : List Oper} {k : List Kt} {e : Env} {w : World} {N : Env → World → Prop} {d : Nat} {c : Option Bool} {ty : TypeId} {pos : String} {af : Array Edge} {g : Option (Nat × Bool)}

theorem Step.eqIface (T : Tb X.P) {xt yt : TypeId} {x y : Operand} {t : TypeId} {v : Value} {ms : Array (String × TypeId)} (hg : guardE ops e ⟨some d, .binOp .eql xt x y yt, ty, pos, af, g⟩ = some c)
    (hx : Op1 e c x (.iface t v)) (hy : Op1 e c y .nilIface) (ht : T.ty xt = some (.interface ms)) (hn : Nat.blt d X.n = true)
    (h : N ((d, c, .bool false) :: e) w) : Step X ops ⟨some d, .binOp .eql xt x y yt, ty, pos, af, g⟩ e w N :=
  Step.quiet rfl (by simpa [Nat.blt_eq] using hn) hg (fun _ hh => by cases hh) (fun t' hf hc => by
    have hT := T.ok _ _ ht
    have h1 : (eqGuard .eql xt x y (.iface t v) .nilIface).run X.P w = .ok () w := by simp [eqGuard]
    have he : ∀ (n : Nat) (w : World), (Op.equalIn (n + 1) xt (.iface t v) .nilIface).run X.P w = .ok false w := fun n w => by
      simp [Op.equalIn, run_underlying hT]
    have hm : Op.maxDepth = 9999 + 1 := rfl
    have h2 : (binOp .eql xt (.iface t v) .nilIface).run X.P w = .ok (.bool false) w := by
      simp only [binOp, Op.equal, hm, Sem.run_bind, he, Sem.run_map, Result.andThen_ok, Sem.run_pure]
    simp only [execOp, hx.val hf hc, hy.val hf hc, Sem.run_bind, h1, h2, Result.andThen_ok, Sem.run_pure]) h
theorem Step.eqNil (T : Tb X.P) {xt yt : TypeId} {x : Operand} {u : Value} {ms : Array (String × TypeId)} (hg : guardE ops e ⟨some d, .binOp .eql xt x (.const u) yt, ty, pos, af, g⟩ = some c)
    (hx : Op1 e c x .nilIface) (hy : Op1 e c (.const u) .nilIface) (ht : T.ty xt = some (.interface ms)) (hn : Nat.blt d X.n = true)
    (h : N ((d, c, .bool true) :: e) w) : Step X ops ⟨some d, .binOp .eql xt x (.const u) yt, ty, pos, af, g⟩ e w N :=
  Step.quiet rfl (by simpa [Nat.blt_eq] using hn) hg (fun _ hh => by cases hh) (fun t' hf hc => by
    have hT := T.ok _ _ ht
    have h1 : (eqGuard .eql xt x (.const u) .nilIface .nilIface).run X.P w = .ok () w := by simp [eqGuard]
    have he : ∀ (n : Nat) (w : World), (Op.equalIn (n + 1) xt .nilIface .nilIface).run X.P w = .ok true w := fun n w => by
      simp [Op.equalIn, run_underlying hT]
    have hm : Op.maxDepth = 9999 + 1 := rfl
    have h2 : (binOp .eql xt .nilIface .nilIface).run X.P w = .ok (.bool true) w := by
      simp only [binOp, Op.equal, hm, Sem.run_bind, he, Sem.run_map, Result.andThen_ok, Sem.run_pure]
    simp only [execOp, hx.val hf hc, hy.val hf hc, Sem.run_bind, h1, h2, Result.andThen_ok, Sem.run_pure]) h
theorem Step.assertT (T : Tb X.P) {x : Operand} {xt t : TypeId} {v : Value} {td : TypeDesc} (hg : guardE ops e ⟨some d, .typeAssert x xt t true, ty, pos, af, g⟩ = some c)
    (hx : Op1 e c x (.iface t v)) (ht : T.ty t = some td) (hi : ifaceT td = false) (hn : Nat.blt d X.n = true)
    (h : N ((d, c, .tuple ⟨[v, .bool true]⟩) :: e) w) : Step X ops ⟨some d, .typeAssert x xt t true, ty, pos, af, g⟩ e w N :=
  Step.quiet rfl (by simpa [Nat.blt_eq] using hn) hg (fun _ hh => by cases hh) (fun t' hf hc => by
    have hT := T.ok _ _ ht
    simp only [execOp, hx.val hf hc, Instr.typeAssert, Sem.run_bind, run_underlying hT, Result.andThen_ok]
    cases td <;> first | (cases hi; done) | simp) h
end
/-- four results, out of cells -/
theorem resC4 {P : Program} {fn : Func} {n : Nat} {e : Env} {t : Array Value} (hf : Fits n e t) {s1 t1 s2 t2 s3 t3 s4 t4 : Nat} {p1 u1 p2 u2 p3 u3 p4 u4 : Value} {d1 d2 d3 d4 : TypeDesc} (hr : fn.results = #[.cell s1 t1, .cell s2 t2, .cell s3 t3, .cell s4 t4])
    (hv1 : look e s1 = some (none, p1)) (hv2 : look e s2 = some (none, p2)) (hv3 : look e s3 = some (none, p3)) (hv4 : look e s4 = some (none, p4))
    (ht1 : P.underlying t1 = some d1) (ha1 : aggT d1 = false) (ht2 : P.underlying t2 = some d2) (ha2 : aggT d2 = false) (ht3 : P.underlying t3 = some d3) (ha3 : aggT d3 = false) (ht4 : P.underlying t4 = some d4) (ha4 : aggT d4 = false)
    {w : World} (hc1 : CellAt w p1 u1) (hc2 : CellAt w p2 u2) (hc3 : CellAt w p3 u3) (hc4 : CellAt w p4 u4) : (results fn t).run P w = .ok (.tuple ⟨[u1, u2, u3, u4]⟩) w := by
  obtain ⟨a1, rfl, hc1⟩ := hc1
  obtain ⟨a2, rfl, hc2⟩ := hc2
  obtain ⟨a3, rfl, hc3⟩ := hc3
  obtain ⟨a4, rfl, hc4⟩ := hc4
  have h1 : t.getD s1 undef = .pointer (some a1) := (hf.get _ _ _ hv1).2
  have h2 : t.getD s2 undef = .pointer (some a2) := (hf.get _ _ _ hv2).2
  have h3 : t.getD s3 undef = .pointer (some a3) := (hf.get _ _ _ hv3).2
  have h4 : t.getD s4 undef = .pointer (some a4) := (hf.get _ _ _ hv4).2
  have e1 : (loadVar t1 a1).run P w = .ok u1 w := by simp [loadVar, Sem.run_bind, run_isAgg ht1, ha1, hc1]
  have e2 : (loadVar t2 a2).run P w = .ok u2 w := by simp [loadVar, Sem.run_bind, run_isAgg ht2, ha2, hc2]
  have e3 : (loadVar t3 a3).run P w = .ok u3 w := by simp [loadVar, Sem.run_bind, run_isAgg ht3, ha3, hc3]
  have e4 : (loadVar t4 a4).run P w = .ok u4 w := by simp [loadVar, Sem.run_bind, run_isAgg ht4, ha4, hc4]
  simp only [results, hr, List.mapM_toArray, List.mapM_cons, List.mapM_nil, h1, h2, h3, h4, asAddr, Sem.run_bind, Sem.run_map, Sem.run_pure, Result.andThen_ok, e1, e2, e3, e4]
  rfl
end Go.Vg
end
section
open Go Go.Vg Go.RowKit Go.Proofs Go.Proofs.YtmkckngecjpklaaDoor
namespace Go.Proofs.YtmkckngecjpklaaDoor
set_option linter.unusedSimpArgs false

/-- the four results, in cells -/
structure Rs4 (w : World) (c0 c1 c2 c3 : Nat) (t g a ok : Value) : Prop where
  b0 : Bx w c0 [t]
  b1 : Bx w c1 [g]
  b2 : Bx w c2 [a]
  b3 : Bx w c3 [ok]

set_option maxHeartbeats 1000000 in
theorem catch_ret (w : World) (c0 c1 c2 c3 : Nat) :
    CallsD Tryd.prog 47 ⟨[ptr c0, ptr c1, ptr c2, ptr c3]⟩ .returning w fun en u w' => en = .returned (.tuple #[]) ∧ u = .returning ∧ w' = w := by
  refine calls_catch (v := .nilIface) (S := fun w' => w' = w) Tryd.func47 rfl Tryd.ntmps47 rfl rfl rfl (fun c cs hm => by simp [recoverD, hm]) ?_
  simp only [argEnv]
  try (first | refine gl tb ?_ | refine gg tb ?_ | refine ll tb ?_ | refine lg tb ?_); repeat ((first | refine G.condT rfl ?_ | refine G.condF rfl ?_ | refine sFa tb ?_ | refine sLd tb ?_ | refine sLa tb ?_ | refine sLen tb ?_ | refine sFd tb ?_ | refine sBd tb ?_ | refine sBa tb ?_); try (first | refine gl tb ?_ | refine gg tb ?_ | refine ll tb ?_ | refine lg tb ?_))
  refine GL.cons (Step.eqNil tb rfl (Op1.of rfl (by first | exact fun _ => rfl | exact fun h => h | exact fun h => bL h | exact fun h => bL (bL h) | exact fun h => bL (bL (bL h)))) (Op1.of rfl (by first | exact fun _ => rfl | exact fun h => h | exact fun h => bL h | exact fun h => bL (bL h) | exact fun h => bL (bL (bL h)))) rfl rfl ?_)
  try (first | refine gl tb ?_ | refine gg tb ?_ | refine ll tb ?_ | refine lg tb ?_); repeat ((first | refine G.condT rfl ?_ | refine G.condF rfl ?_ | refine sFa tb ?_ | refine sLd tb ?_ | refine sLa tb ?_ | refine sLen tb ?_ | refine sFd tb ?_ | refine sBd tb ?_ | refine sBa tb ?_); try (first | refine gl tb ?_ | refine gg tb ?_ | refine ll tb ?_ | refine lg tb ?_))
  exact G.endCatch rfl rfl rfl
set_option maxHeartbeats 1000000 in
theorem catch_panic (w : World) (c0 c1 c2 c3 e : Nat) {t g a ok : Value} (h : Rs4 w c0 c1 c2 c3 t g a ok) (h01 : c0 < c1) (h12 : c1 < c2) (h23 : c2 < c3) :
    CallsD Tryd.prog 47 ⟨[ptr c0, ptr c1, ptr c2, ptr c3]⟩ (.panicking [{ v := .iface 104 (.agg ⟨[.int .i64 e]⟩), recovered := false }]) w fun en u w' => en = .returned (.tuple #[]) ∧ u = .panicking [{ v := .iface 104 (.agg ⟨[.int .i64 e]⟩), recovered := true }] ∧
      (Rs4 w' c0 c1 c2 c3 (.pointer none) (.int .i64 0) (.int .i64 e) (.bool false) ∧ Below c0 w w') := by
  refine calls_catch (v := .iface 104 (.agg ⟨[.int .i64 e]⟩)) (S := fun w' => Rs4 w' c0 c1 c2 c3 (.pointer none) (.int .i64 0) (.int .i64 e) (.bool false) ∧ Below c0 w w') Tryd.func47 rfl Tryd.ntmps47 rfl rfl rfl (fun c cs hm => by simp [recoverD, hm]) ?_
  simp only [argEnv]
  try (first | refine gl tb ?_ | refine gg tb ?_ | refine ll tb ?_ | refine lg tb ?_); repeat ((first | refine G.condT rfl ?_ | refine G.condF rfl ?_ | refine sFa tb ?_ | refine sLd tb ?_ | refine sLa tb ?_ | refine sLen tb ?_ | refine sFd tb ?_ | refine sBd tb ?_ | refine sBa tb ?_); try (first | refine gl tb ?_ | refine gg tb ?_ | refine ll tb ?_ | refine lg tb ?_))
  refine GL.cons (Step.eqIface tb rfl (Op1.of rfl (by first | exact fun _ => rfl | exact fun h => h | exact fun h => bL h | exact fun h => bL (bL h) | exact fun h => bL (bL (bL h)))) (Op1.of rfl (by first | exact fun _ => rfl | exact fun h => h | exact fun h => bL h | exact fun h => bL (bL h) | exact fun h => bL (bL (bL h)))) rfl rfl ?_)
  try (first | refine gl tb ?_ | refine gg tb ?_ | refine ll tb ?_ | refine lg tb ?_); repeat ((first | refine G.condT rfl ?_ | refine G.condF rfl ?_ | refine sFa tb ?_ | refine sLd tb ?_ | refine sLa tb ?_ | refine sLen tb ?_ | refine sFd tb ?_ | refine sBd tb ?_ | refine sBa tb ?_); try (first | refine gl tb ?_ | refine gg tb ?_ | refine ll tb ?_ | refine lg tb ?_))
  refine GL.cons (Step.assertT tb rfl (Op1.of rfl (by first | exact fun _ => rfl | exact fun h => h | exact fun h => bL h | exact fun h => bL (bL h) | exact fun h => bL (bL (bL h)))) rfl rfl rfl ?_)
  try (first | refine gl tb ?_ | refine gg tb ?_ | refine ll tb ?_ | refine lg tb ?_); repeat ((first | refine G.condT rfl ?_ | refine G.condF rfl ?_ | refine sFa tb ?_ | refine sLd tb ?_ | refine sLa tb ?_ | refine sLen tb ?_ | refine sFd tb ?_ | refine sBd tb ?_ | refine sBa tb ?_); try (first | refine gl tb ?_ | refine gg tb ?_ | refine ll tb ?_ | refine lg tb ?_))
  have h3 := h.b3.lt
  refine sAl tb (fun W1 hb1 hs1 hx1 => ?_)
  try (first | refine gl tb ?_ | refine gg tb ?_ | refine ll tb ?_ | refine lg tb ?_); repeat ((first | refine G.condT rfl ?_ | refine G.condF rfl ?_ | refine sFa tb ?_ | refine sLd tb ?_ | refine sLa tb ?_ | refine sLen tb ?_ | refine sFd tb ?_ | refine sBd tb ?_ | refine sBa tb ?_); try (first | refine gl tb ?_ | refine gg tb ?_ | refine ll tb ?_ | refine lg tb ?_))
  refine sSt tb (fun W2 hb2 hw2 => ?_)
  have hB2 : Below c0 w W2 := (hx1.mono (by omega)).wr hw2 (by omega)
  have hq0 : Bx W2 c0 [t] := (h.b0.to hx1).wr hw2 (by omega)
  have hq1 : Bx W2 c1 [g] := (h.b1.to hx1).wr hw2 (by omega)
  have hq2 : Bx W2 c2 [a] := (h.b2.to hx1).wr hw2 (by omega)
  have hq3 : Bx W2 c3 [ok] := (h.b3.to hx1).wr hw2 (by omega)
  have hbe : Bx W2 w.heap.size [.int .i64 e] := hb2
  try (first | refine gl tb ?_ | refine gg tb ?_ | refine ll tb ?_ | refine lg tb ?_); repeat ((first | refine G.condT rfl ?_ | refine G.condF rfl ?_ | refine sFa tb ?_ | refine sLd tb ?_ | refine sLa tb ?_ | refine sLen tb ?_ | refine sFd tb ?_ | refine sBd tb ?_ | refine sBa tb ?_); try (first | refine gl tb ?_ | refine gg tb ?_ | refine ll tb ?_ | refine lg tb ?_))
  have hbe := hbe.to (Ext.drew W2)
  have hq0 := hq0.to (Ext.drew W2)
  have hq1 := hq1.to (Ext.drew W2)
  have hq2 := hq2.to (Ext.drew W2)
  have hq3 := hq3.to (Ext.drew W2)
  have hB2 := hB2.drew
  refine G.regionM [(0, true), (1, true), (2, false), (3, false), (4, false), (5, false)] (fun w' => Bx w' w.heap.size [.int .i64 (e : Nat)]) (by kernel_rfl) (by kernel_rfl) rfl mixed (hbe) rfl ?_
  try (refine mm tb ?_); repeat ((first | refine dFa tb ?_ | refine dLd tb ?_ | refine dLa tb ?_ | refine dLen tb ?_ | refine dFd tb ?_); try (refine mm tb ?_))
  refine GM.read (fun w' hS => Step.load1 tb rfl (Op1.of rfl (by first | exact fun _ => rfl | exact fun h => h | exact fun h => bL h | exact fun h => bL (bL h) | exact fun h => bL (bL (bL h)))) rfl rfl (fun _ => Bx.c0 hS rfl) rfl ⟨rfl, rfl⟩) rfl rfl ?_
  try (refine mm tb ?_); repeat ((first | refine dFa tb ?_ | refine dLd tb ?_ | refine dLa tb ?_ | refine dLen tb ?_ | refine dFd tb ?_); try (refine mm tb ?_))
  have n0 : w.heap.size ≠ c0 := by omega
  have n1 : w.heap.size ≠ c1 := by omega
  have n2 : w.heap.size ≠ c2 := by omega
  have n3 : w.heap.size ≠ c3 := by omega
  refine GM.eff (Step.store0 tb rfl (Op1.of rfl (by first | exact fun _ => rfl | exact fun h => h | exact fun h => bL h | exact fun h => bL (bL h) | exact fun h => bL (bL (bL h)))) (Op1.of rfl (by first | exact fun _ => rfl | exact fun h => h | exact fun h => bL h | exact fun h => bL (bL h) | exact fun h => bL (bL (bL h)))) rfl rfl rfl (by simp [Value.oneCell']) hq0 rfl ?_)
  intro W3 hb3 hw3
  have hbe := hbe.wr hw3 n0
  have hq1 := hq1.wr hw3 (by omega)
  have hq2 := hq2.wr hw3 (by omega)
  have hq3 := hq3.wr hw3 (by omega)
  refine ⟨hbe, ?_⟩
  refine GM.eff (Step.store0 tb rfl (Op1.of rfl (by first | exact fun _ => rfl | exact fun h => h | exact fun h => bL h | exact fun h => bL (bL h) | exact fun h => bL (bL (bL h)))) (Op1.of rfl (by first | exact fun _ => rfl | exact fun h => h | exact fun h => bL h | exact fun h => bL (bL h) | exact fun h => bL (bL (bL h)))) rfl rfl rfl (by simp [Value.oneCell']) hq1 rfl ?_)
  intro W4 hb4 hw4
  have hbe := hbe.wr hw4 n1
  have hq2 := hq2.wr hw4 (by omega)
  have hq3 := hq3.wr hw4 (by omega)
  refine ⟨hbe, ?_⟩
  refine GM.eff (Step.store0 tb rfl (Op1.of rfl (by first | exact fun _ => rfl | exact fun h => h | exact fun h => bL h | exact fun h => bL (bL h) | exact fun h => bL (bL (bL h)))) (Op1.of rfl (by first | exact fun _ => rfl | exact fun h => h | exact fun h => bL h | exact fun h => bL (bL h) | exact fun h => bL (bL (bL h)))) rfl rfl rfl (by simp [Value.oneCell']) hq2 rfl ?_)
  intro W5 hb5 hw5
  have hbe := hbe.wr hw5 n2
  have hq3 := hq3.wr hw5 (by omega)
  refine ⟨hbe, ?_⟩
  refine GM.eff (Step.store0 tb rfl (Op1.of rfl (by first | exact fun _ => rfl | exact fun h => h | exact fun h => bL h | exact fun h => bL (bL h) | exact fun h => bL (bL (bL h)))) (Op1.of rfl (by first | exact fun _ => rfl | exact fun h => h | exact fun h => bL h | exact fun h => bL (bL h) | exact fun h => bL (bL (bL h)))) rfl rfl rfl (by simp [Value.oneCell']) hq3 rfl ?_)
  intro W6 hb6 hw6
  refine ⟨hbe.wr hw6 n3, ?_⟩
  try (refine mm tb ?_); repeat ((first | refine dFa tb ?_ | refine dLd tb ?_ | refine dLa tb ?_ | refine dLen tb ?_ | refine dFd tb ?_); try (refine mm tb ?_))
  refine GM.nil ?_
  try (first | refine gl tb ?_ | refine gg tb ?_ | refine ll tb ?_ | refine lg tb ?_); repeat ((first | refine G.condT rfl ?_ | refine G.condF rfl ?_ | refine sFa tb ?_ | refine sLd tb ?_ | refine sLa tb ?_ | refine sLen tb ?_ | refine sFd tb ?_ | refine sBd tb ?_ | refine sBa tb ?_); try (first | refine gl tb ?_ | refine gg tb ?_ | refine ll tb ?_ | refine lg tb ?_))
  refine G.endCatch rfl rfl ⟨⟨((hb3.wr hw4 (by omega)).wr hw5 (by omega)).wr hw6 (by omega), (hb4.wr hw5 (by omega)).wr hw6 (by omega), hb5.wr hw6 (by omega), hb6⟩, (((hB2.wr hw3 (by omega)).wr hw4 (by omega)).wr hw5 (by omega)).wr hw6 (by omega)⟩

/-- what a reading of the whole gives -/
def ReadS (s : List UInt8) (w : World) (r : Value) (w' : World) : Prop :=
  Ext w w' ∧ ((∃ t g v, Rx.readP s = .ok (t, g) ∧ Tr w' (fun b => w.heap.size ≤ b) t v ∧ r = .tuple ⟨[v, .int .i64 (g : Nat), .int .i64 0, .bool true]⟩) ∨
    (∃ e, Rx.readP s = .error e ∧ r = .tuple ⟨[.pointer none, .int .i64 0, .int .i64 (e : Nat), .bool false]⟩))
set_option maxHeartbeats 4000000 in
theorem read_ok (w : World) (s : List UInt8) (hs : s.length ≤ 256) (hT : Tabs w) : Ret Tryd.prog 31 ⟨[S s]⟩ w (ReadS s w) := by
  refine ret_of_GDf Tryd.func31 rfl Tryd.ntmps31 rfl ?_
  simp only [argEnv]
  try (first | refine gl tb ?_ | refine gg tb ?_ | refine ll tb ?_ | refine lg tb ?_); repeat ((first | refine G.condT rfl ?_ | refine G.condF rfl ?_ | refine sFa tb ?_ | refine sLd tb ?_ | refine sLa tb ?_ | refine sLen tb ?_ | refine sFd tb ?_ | refine sBd tb ?_ | refine sBa tb ?_); try (first | refine gl tb ?_ | refine gg tb ?_ | refine ll tb ?_ | refine lg tb ?_))
  refine sAl tb (fun W1 hb1 hs1 hx1 => ?_)
  try (first | refine gl tb ?_ | refine gg tb ?_ | refine ll tb ?_ | refine lg tb ?_); repeat ((first | refine G.condT rfl ?_ | refine G.condF rfl ?_ | refine sFa tb ?_ | refine sLd tb ?_ | refine sLa tb ?_ | refine sLen tb ?_ | refine sFd tb ?_ | refine sBd tb ?_ | refine sBa tb ?_); try (first | refine gl tb ?_ | refine gg tb ?_ | refine ll tb ?_ | refine lg tb ?_))
  refine sAl tb (fun W2 hb2 hs2 hx2 => ?_)
  try (first | refine gl tb ?_ | refine gg tb ?_ | refine ll tb ?_ | refine lg tb ?_); repeat ((first | refine G.condT rfl ?_ | refine G.condF rfl ?_ | refine sFa tb ?_ | refine sLd tb ?_ | refine sLa tb ?_ | refine sLen tb ?_ | refine sFd tb ?_ | refine sBd tb ?_ | refine sBa tb ?_); try (first | refine gl tb ?_ | refine gg tb ?_ | refine ll tb ?_ | refine lg tb ?_))
  refine sAl tb (fun W3 hb3 hs3 hx3 => ?_)
  try (first | refine gl tb ?_ | refine gg tb ?_ | refine ll tb ?_ | refine lg tb ?_); repeat ((first | refine G.condT rfl ?_ | refine G.condF rfl ?_ | refine sFa tb ?_ | refine sLd tb ?_ | refine sLa tb ?_ | refine sLen tb ?_ | refine sFd tb ?_ | refine sBd tb ?_ | refine sBa tb ?_); try (first | refine gl tb ?_ | refine gg tb ?_ | refine ll tb ?_ | refine lg tb ?_))
  refine sAl tb (fun W4 hb4 hs4 hx4 => ?_)
  try (first | refine gl tb ?_ | refine gg tb ?_ | refine ll tb ?_ | refine lg tb ?_); repeat ((first | refine G.condT rfl ?_ | refine G.condF rfl ?_ | refine sFa tb ?_ | refine sLd tb ?_ | refine sLa tb ?_ | refine sLen tb ?_ | refine sFd tb ?_ | refine sBd tb ?_ | refine sBa tb ?_); try (first | refine gl tb ?_ | refine gg tb ?_ | refine ll tb ?_ | refine lg tb ?_))
  refine sBox (fun W5 hb5 hs5 hx5 => ?_)
  try (first | refine gl tb ?_ | refine gg tb ?_ | refine ll tb ?_ | refine lg tb ?_); repeat ((first | refine G.condT rfl ?_ | refine G.condF rfl ?_ | refine sFa tb ?_ | refine sLd tb ?_ | refine sLa tb ?_ | refine sLen tb ?_ | refine sFd tb ?_ | refine sBd tb ?_ | refine sBa tb ?_); try (first | refine gl tb ?_ | refine gg tb ?_ | refine ll tb ?_ | refine lg tb ?_))
  have e1 : W1.heap.size = w.heap.size + 1 := hs1
  have e2 : W2.heap.size = w.heap.size + 2 := by omega
  have e3 : W3.heap.size = w.heap.size + 3 := by omega
  have e4 : W4.heap.size = w.heap.size + 4 := by omega
  have hx05 := (((hx1.trans hx2).trans hx3).trans hx4).trans hx5
  have hp0 : Bx W5 w.heap.size [.pointer none] := (((hb1.to hx2).to hx3).to hx4).to hx5
  have hp1 : Bx W5 W1.heap.size [.int .i64 0] := ((hb2.to hx3).to hx4).to hx5
  have hp2 : Bx W5 W2.heap.size [.int .i64 0] := (hb3.to hx4).to hx5
  have hp3 : Bx W5 W3.heap.size [.bool false] := hb4.to hx5
  have hr5 : Rd W5 W4.heap.size s 0 0 := ⟨hb5, hT.to hx05, by have := hT.lt; omega, Nat.zero_le _, hs, Nat.le_refl _⟩
  have hP : ∀ (W : World) (t : Array Value) (en : Env) (e : Nat) (u0 u1 u2 u3 : Value), Fits 26 en t → Go.Vg.look en 2 = some (none, ptr w.heap.size) → Go.Vg.look en 3 = some (none, ptr W1.heap.size) → Go.Vg.look en 4 = some (none, ptr W2.heap.size) → Go.Vg.look en 5 = some (none, ptr W3.heap.size) →
      Rs4 W w.heap.size W1.heap.size W2.heap.size W3.heap.size u0 u1 u2 u3 → Ext w W → Rx.readP s = .error e →
      Leaves Tryd.prog Tryd.f31 t (fun en w' => ∃ v, en = .returned v ∧ ReadS s w v w') [{ target := .fn (.func 47) ⟨[ptr w.heap.size, ptr W1.heap.size, ptr W2.heap.size, ptr W3.heap.size]⟩, args := #[] }] (.panicking [{ v := .iface 104 (.agg ⟨[.int .i64 e]⟩), recovered := false }]) W := by
    intro W t en e u0 u1 u2 u3 hf l2 l3 l4 l5 hR hx hE
    refine leaves_panic c47 (catch_panic W _ _ _ _ e hR (by omega) (by omega) (by omega)) ?_
    rintro w' ⟨h4, hB⟩
    exact ⟨_, resC4 hf rfl l2 l3 l4 l5 (tb.ok _ _ rfl) rfl (tb.ok _ _ rfl) rfl (tb.ok _ _ rfl) rfl (tb.ok _ _ rfl) rfl (Bx.c0 h4.b0 rfl) (Bx.c0 h4.b1 rfl) (Bx.c0 h4.b2 rfl) (Bx.c0 h4.b3 rfl), Below.trans hx hB, .inr ⟨e, hE, rfl⟩⟩
  refine GL.deferL rfl rfl (Op1.of rfl (by first | exact fun _ => rfl | exact fun h => h | exact fun h => bL h | exact fun h => bL (bL h) | exact fun h => bL (bL (bL h)))) ?_
  try (first | refine gl tb ?_ | refine gg tb ?_ | refine ll tb ?_ | refine lg tb ?_); repeat ((first | refine G.condT rfl ?_ | refine G.condF rfl ?_ | refine sFa tb ?_ | refine sLd tb ?_ | refine sLa tb ?_ | refine sLen tb ?_ | refine sFd tb ?_ | refine sBd tb ?_ | refine sBa tb ?_); try (first | refine gl tb ?_ | refine gg tb ?_ | refine ll tb ?_ | refine lg tb ?_))
  refine GL.callPk c48 ((reader_ok (6 * s.length + 5)).1 W5 W4.heap.size s 0 0 hr5 (by simp only [Rx.need]; omega)) ?_ ?_
  · rintro ch W' t hf ⟨e, he, rfl, hk⟩
    refine hP W' t _ e _ _ _ _ hf rfl rfl rfl rfl ⟨hp0.kp hk (by omega), hp1.kp hk (by omega), hp2.kp hk (by omega), hp3.kp hk (by omega)⟩ (hx05.ofKp hk (by omega)) ?_
    unfold Rx.readP; rw [he]
  rintro v W6 ⟨t, a, g, hE, hTr, hr6, hk6, hia⟩
  have hp0 := hp0.kp hk6 (by omega)
  have hp1 := hp1.kp hk6 (by omega)
  have hp2 := hp2.kp hk6 (by omega)
  have hp3 := hp3.kp hk6 (by omega)
  have hx6 := hx05.ofKp hk6 (by omega)
  obtain ⟨ub, rfl⟩ := hTr.isPtr
  try (first | refine gl tb ?_ | refine gg tb ?_ | refine ll tb ?_ | refine lg tb ?_); repeat ((first | refine G.condT rfl ?_ | refine G.condF rfl ?_ | refine sFa tb ?_ | refine sLd tb ?_ | refine sLa tb ?_ | refine sLen tb ?_ | refine sFd tb ?_ | refine sBd tb ?_ | refine sBa tb ?_); try (first | refine gl tb ?_ | refine gg tb ?_ | refine ll tb ?_ | refine lg tb ?_))
  refine sSt tb (fun W7 hb7 hw7 => ?_) (h1 := by simp [Value.oneCell', ptr])
  have hp1 := hp1.wr hw7 (by omega)
  have hp2 := hp2.wr hw7 (by omega)
  have hp3 := hp3.wr hw7 (by omega)
  have hx7 : Ext w W7 := hx6.wr hw7 (Nat.le_refl _)
  have hb7 : Bx W7 w.heap.size [ptr ub] := hb7
  have hr7 : Rd W7 W4.heap.size s a g := ⟨hr6.bx.wr hw7 (by omega), (by
    have h1 : 2 < w.heap.size := hT.lt
    exact hr6.tabs.kp hw7.kp h1), hr6.hb, hr6.hi, hr6.hs, hr6.hg⟩
  have hT7 : Tr W7 (fun b => w.heap.size ≤ b) t (ptr ub) := hTr.same fun q hq hA => ⟨hw7.block q (by have : W5.heap.size ≤ q := hA; omega), by have : W5.heap.size ≤ q := hA; show w.heap.size ≤ q; omega⟩
  try (first | refine gl tb ?_ | refine gg tb ?_ | refine ll tb ?_ | refine lg tb ?_); repeat ((first | refine G.condT rfl ?_ | refine G.condF rfl ?_ | refine sFa tb ?_ | refine sLd tb ?_ | refine sLa tb ?_ | refine sLen tb ?_ | refine sFd tb ?_ | refine sBd tb ?_ | refine sBa tb ?_); try (first | refine gl tb ?_ | refine gg tb ?_ | refine ll tb ?_ | refine lg tb ?_))
  refine sCall c49 (more_ok W7 W4.heap.size s a g hr7) ?_
  rintro _ W8 ⟨rfl, hx8⟩
  have hr8 := hr7.to hx8
  have hbx := hr8.bx
  unfold rdC at hbx
  have hq0 := hb7.to hx8
  have hq1 := hp1.to hx8
  have hq2 := hp2.to hx8
  have hq3 := hp3.to hx8
  have hT8 := hT7.ext hx8
  have hx8' := hx7.trans hx8
  have hRE : a < s.length → Rx.readP s = .error a := fun hl => by unfold Rx.readP; rw [hE]; exact if_pos hl
  have hRO : ¬ a < s.length → Rx.readP s = .ok (t, g) := fun hl => by unfold Rx.readP; rw [hE]; exact if_neg hl
  try (first | refine gl tb ?_ | refine gg tb ?_ | refine ll tb ?_ | refine lg tb ?_); repeat ((first | refine G.condT rfl ?_ | refine G.condF rfl ?_ | refine sFa tb ?_ | refine sLd tb ?_ | refine sLa tb ?_ | refine sLen tb ?_ | refine sFd tb ?_ | refine sBd tb ?_ | refine sBa tb ?_); try (first | refine gl tb ?_ | refine gg tb ?_ | refine ll tb ?_ | refine lg tb ?_))
  first | refine G.condD rfl (fun hc => ?_) (fun hc => ?_) | refine G.condN rfl (fun hc => ?_) (fun hc => ?_) | refine G.cond rfl (fun hc => ?_) (fun hc => ?_)
  · have hl : a < s.length := by simpa using hc
    try (first | refine gl tb ?_ | refine gg tb ?_ | refine ll tb ?_ | refine lg tb ?_); repeat ((first | refine G.condT rfl ?_ | refine G.condF rfl ?_ | refine sFa tb ?_ | refine sLd tb ?_ | refine sLa tb ?_ | refine sLen tb ?_ | refine sFd tb ?_ | refine sBd tb ?_ | refine sBa tb ?_); try (first | refine gl tb ?_ | refine gg tb ?_ | refine ll tb ?_ | refine lg tb ?_))
    refine GL.callPk c50 (fail_ok W4.heap.size a W8) ?_ ?_
    · rintro ch W' t' hf ⟨rfl, rfl⟩
      exact hP W' t' _ a _ _ _ _ hf rfl rfl rfl rfl ⟨hq0, hq1, hq2, hq3⟩ hx8' (hRE hl)
    · rintro _ _ ⟨⟩
  · have hl : ¬ a < s.length := by simpa using hc
    try (first | refine gl tb ?_ | refine gg tb ?_ | refine ll tb ?_ | refine lg tb ?_); repeat ((first | refine G.condT rfl ?_ | refine G.condF rfl ?_ | refine sFa tb ?_ | refine sLd tb ?_ | refine sLa tb ?_ | refine sLen tb ?_ | refine sFd tb ?_ | refine sBd tb ?_ | refine sBa tb ?_); try (first | refine gl tb ?_ | refine gg tb ?_ | refine ll tb ?_ | refine lg tb ?_))
    have hq0 := hq0.to (Ext.drew W8)
    have hq1 := hq1.to (Ext.drew W8)
    have hq2 := hq2.to (Ext.drew W8)
    have hq3 := hq3.to (Ext.drew W8)
    have hbx := hbx.to (Ext.drew W8)
    have hT8 := hT8.ext (Ext.drew W8)
    have hx9 := hx8'.trans (Ext.drew W8)
    refine G.regionM [(0, true), (1, true), (2, true), (3, true), (4, true), (5, false), (6, false), (7, false), (8, false)] (fun w' => Bx w' w.heap.size [ptr ub] ∧ Bx w' W4.heap.size [S s, .int .i64 (a : Nat), .int .i64 (g : Nat)]) (by kernel_rfl) (by kernel_rfl) rfl mixed (⟨hq0, hbx⟩) rfl ?_
    refine GM.read (fun w' hS => Step.load1 tb rfl (Op1.of rfl (by first | exact fun _ => rfl | exact fun h => h | exact fun h => bL h | exact fun h => bL (bL h) | exact fun h => bL (bL (bL h)))) rfl rfl (fun _ => Bx.c0 hS.1 rfl) rfl ⟨rfl, rfl⟩) rfl rfl ?_
    try (refine mm tb ?_); repeat ((first | refine dFa tb ?_ | refine dLd tb ?_ | refine dLa tb ?_ | refine dLen tb ?_ | refine dFd tb ?_); try (refine mm tb ?_))
    refine GM.read (fun w' hS => Step.load1 tb rfl (Op1.of rfl (by first | exact fun _ => rfl | exact fun h => h | exact fun h => bL h | exact fun h => bL (bL h) | exact fun h => bL (bL (bL h)))) rfl rfl (fun _ => Bx.ci hS.2 (by exact rfl)) rfl ⟨rfl, rfl⟩) rfl rfl ?_
    try (refine mm tb ?_); repeat ((first | refine dFa tb ?_ | refine dLd tb ?_ | refine dLa tb ?_ | refine dLen tb ?_ | refine dFd tb ?_); try (refine mm tb ?_))
    have n0 : W4.heap.size ≠ w.heap.size := by omega
    have n1 : W4.heap.size ≠ W1.heap.size := by omega
    have n2 : W4.heap.size ≠ W2.heap.size := by omega
    have n3 : W4.heap.size ≠ W3.heap.size := by omega
    have lt : ∀ {W W' : World} {c : Nat}, Tr W (fun b => W5.heap.size ≤ b) t (ptr ub) → Wr c W W' → c < W5.heap.size → Tr W' (fun b => W5.heap.size ≤ b) t (ptr ub) := fun h hw hc => h.same fun q hq hA => ⟨hw.block q (by have : W5.heap.size ≤ q := hA; omega), hA⟩
    have hT5 : Tr W8.drew (fun b => W5.heap.size ≤ b) t (ptr ub) := ((lt hTr hw7 (by omega)).ext hx8).ext (Ext.drew W8)
    refine GM.eff (Step.store0 tb rfl (Op1.of rfl (by first | exact fun _ => rfl | exact fun h => h | exact fun h => bL h | exact fun h => bL (bL h) | exact fun h => bL (bL (bL h)))) (Op1.of rfl (by first | exact fun _ => rfl | exact fun h => h | exact fun h => bL h | exact fun h => bL (bL h) | exact fun h => bL (bL (bL h)))) rfl rfl rfl (by simp [Value.oneCell', ptr]) hq0 rfl ?_)
    intro Wa hba hwa
    have hbx := hbx.wr hwa n0
    have hq1 := hq1.wr hwa (by omega)
    have hq2 := hq2.wr hwa (by omega)
    have hq3 := hq3.wr hwa (by omega)
    have hba : Bx Wa w.heap.size [ptr ub] := hba
    refine ⟨⟨hba, hbx⟩, ?_⟩
    refine GM.eff (Step.store0 tb rfl (Op1.of rfl (by first | exact fun _ => rfl | exact fun h => h | exact fun h => bL h | exact fun h => bL (bL h) | exact fun h => bL (bL (bL h)))) (Op1.of rfl (by first | exact fun _ => rfl | exact fun h => h | exact fun h => bL h | exact fun h => bL (bL h) | exact fun h => bL (bL (bL h)))) rfl rfl rfl (by simp [Value.oneCell']) hq1 rfl ?_)
    intro Wb hbb hwb
    have hbx := hbx.wr hwb n1
    have hba := hba.wr hwb (by omega)
    have hq2 := hq2.wr hwb (by omega)
    have hq3 := hq3.wr hwb (by omega)
    refine ⟨⟨hba, hbx⟩, ?_⟩
    refine GM.eff (Step.store0 tb rfl (Op1.of rfl (by first | exact fun _ => rfl | exact fun h => h | exact fun h => bL h | exact fun h => bL (bL h) | exact fun h => bL (bL (bL h)))) (Op1.of rfl (by first | exact fun _ => rfl | exact fun h => h | exact fun h => bL h | exact fun h => bL (bL h) | exact fun h => bL (bL (bL h)))) rfl rfl rfl (by simp [Value.oneCell']) hq2 rfl ?_)
    intro Wc hbc hwc
    have hbx := hbx.wr hwc n2
    have hba := hba.wr hwc (by omega)
    have hbb := hbb.wr hwc (by omega)
    have hq3 := hq3.wr hwc (by omega)
    refine ⟨⟨hba, hbx⟩, ?_⟩
    refine GM.eff (Step.store0 tb rfl (Op1.of rfl (by first | exact fun _ => rfl | exact fun h => h | exact fun h => bL h | exact fun h => bL (bL h) | exact fun h => bL (bL (bL h)))) (Op1.of rfl (by first | exact fun _ => rfl | exact fun h => h | exact fun h => bL h | exact fun h => bL (bL h) | exact fun h => bL (bL (bL h)))) rfl rfl rfl (by simp [Value.oneCell']) hq3 rfl ?_)
    intro Wd hbd hwd
    have hbx := hbx.wr hwd n3
    have hba := hba.wr hwd (by omega)
    have hbb := hbb.wr hwd (by omega)
    have hbc := hbc.wr hwd (by omega)
    refine ⟨⟨hba, hbx⟩, ?_⟩
    refine GM.nil ?_
    have hTd := lt (lt (lt (lt hT5 hwa (by omega)) hwb (by omega)) hwc (by omega)) hwd (by omega)
    have hxd := ((((hx9.wr hwa (Nat.le_refl _)).wr hwb (by omega)).wr hwc (by omega)).wr hwd (by omega))
    refine G.ret fun t' hf => ?_
    refine leaves_ret c47 (catch_ret Wd _ _ _ _) ?_
    rintro w' rfl
    exact ⟨_, resC4 hf rfl rfl rfl rfl rfl (tb.ok _ _ rfl) rfl (tb.ok _ _ rfl) rfl (tb.ok _ _ rfl) rfl (tb.ok _ _ rfl) rfl (Bx.c0 hba rfl) (Bx.c0 hbb rfl) (Bx.c0 hbc rfl) (Bx.c0 hbd rfl), hxd, .inl ⟨t, g, _, hRO hl, hTd.same fun q hq hA => ⟨rfl, by have : W5.heap.size ≤ q := hA; show w.heap.size ≤ q; omega⟩, rfl⟩⟩
end Go.Proofs.YtmkckngecjpklaaDoor
end
section
namespace Go.Vg
open Go.RowKit

theorem flatten_set1 {k : Nat} : ∀ (xs : List (List Value)) (j off : Nat) (u : Value), (∀ x ∈ xs, x.length = k) → j < xs.length → off < k → (xs.set j ((xs.getD j []).set off u)).flatten = xs.flatten.set (j * k + off) u
  | [], j, _, _, _, hj, _ => by simp at hj
  | x :: r, 0, off, u, h, _, ho => by
    have hx : x.length = k := h x (by simp)
    simp only [List.set_cons_zero, List.flatten_cons, List.getD_cons_zero, Nat.zero_mul, Nat.zero_add]
    rw [List.set_append_left _ _ (by omega)]
  | x :: r, j + 1, off, u, h, hj, ho => by
    have hx : x.length = k := h x (by simp)
    have ih := flatten_set1 r j off u (fun y hy => h y (by simp [hy])) (by simpa using hj) ho
    simp only [List.set_cons_succ, List.flatten_cons, List.getD_cons_succ]
    rw [List.set_append_right _ _ (by rw [hx, Nat.succ_mul]; omega), ih, hx, Nat.succ_mul]
    congr 2
    omega

section
variable {X : Cx} {ops : Array Oper} {l : List Oper} {kk : List Kt} {e : Env} {w : World} {N : Env → World → Prop} {d : Nat} {c : Option Bool} {ty : TypeId} {pos : String} {af : Array Edge} {g : Option (Nat × Bool)}

theorem Step.storeRowF (T : Tb X.P) {x y : Operand} {t : TypeId} {v u z : Value} {k by_ B et j off : Nat} {xs : List (List Value)} (hg : guardE ops e ⟨none, .store t x y, ty, pos, af, g⟩ = some none)
    (hx : Op1 e none x (padd (padd v (j * k)) off)) (hy : Op1 e none y u) (hi : T.inf t = some (z, 1, by_)) (hv : u.cells = ⟨[u]⟩) (h1 : u.oneCell' = true)
    (ho : Owns w B v et k xs) (hj : j < xs.length) (hoff : off < k)
    (h : ∀ w', Owns w' B v et k (xs.set j ((xs.getD j []).set off u)) → Grew B v w w' → N e w') : Step X ops ⟨none, .store t x y, ty, pos, af, g⟩ e w N := by
  obtain ⟨⟨hl, hr⟩, hk, hb⟩ := ho
  rcases hr with ⟨rfl, hn⟩ | ⟨gb, cap, ⟨us⟩, rfl, hB, hgb, hc, hm, hsz, htk⟩
  · omega
  · have hle : xs.length * k ≤ cap * k := Nat.mul_le_mul_right _ hc
    have hjk : (j + 1) * k ≤ xs.length * k := Nat.mul_le_mul_right _ hj
    rw [Nat.add_mul, Nat.one_mul] at hjk
    have hus : us.length = cap * k := hsz
    simp only at htk
    obtain ⟨w', hrun, hw, hx'⟩ := run_storeCells_t X.P et [u] gb (j * k + off) 0 us w hgb (by simp only [List.length_cons, List.length_nil]; omega) (by intro v hv; simp only [List.mem_cons, List.not_mem_nil, or_false] at hv; subst hv; exact h1)
    rw [Nat.add_zero] at hx'
    have hset : us.take (j * k + off) ++ [u] ++ us.drop (j * k + off + [u].length) = us.set (j * k + off) u := by
      rw [List.set_eq_take_append_cons_drop, if_pos (by omega)]
      simp
    rw [hset] at hx'
    refine Step.effNone rfl hg (fun _ hh => by cases hh) (w' := w') (fun t' hf => ?_) (h w' ?_ ?_)
    · have hp : padd (padd (Value.slice (some ⟨gb, 0, none⟩) xs.length cap) (j * k)) off = .pointer (some ⟨gb, j * k + off, none⟩) := by simp [padd, Addr.add_lit]
      have hsz' : ¬ ((⟨[u]⟩ : Array Value).size ≠ 1) := by simp
      simp only [execOp, hx.val hf rfl, hy.val hf rfl, hp, Instr.storeAt, Instr.sureAddr, storeVar, Sem.run_bind, Sem.run_pure, Result.andThen_ok, run_sizeOf hi, hv, if_neg hsz', hrun]
    · have hfl := flatten_set1 xs j off u hk hj hoff
      have hmem : ∀ y ∈ xs.set j ((xs.getD j []).set off u), y.length = k := by
        intro y hy
        rcases List.mem_or_eq_of_mem_set hy with hy | rfl
        · exact hk y hy
        · rw [List.length_set, List.getD_eq_getElem?_getD, List.getElem?_eq_getElem hj]
          exact hk _ (List.getElem_mem hj)
      refine ⟨⟨?_, .inr ⟨gb, cap, _, by rw [List.length_set], hB, hx', by rw [List.length_set]; exact hc, hm, ?_, ?_⟩⟩, hmem, by rw [List.length_set]; exact hb⟩
      · rw [flatten_length _ hmem]
      · simp only [List.size_toArray, List.length_set]; exact hus
      · rw [List.length_set, hfl, ← htk]
        simp only
        rw [List.take_set]
    · exact ⟨fun w0 hb0 => hb0.wr hw hB, by rw [hw.size]; exact Nat.le_refl _, fun q hq hne => hw.block q (fun e => hne (by rw [e]; rfl))⟩
end
end Go.Vg
end
section
namespace Go.Vg
open Go.RowKit

structure Kq (P : Nat → Prop) (w w' : World) : Prop where
  os : w'.os = w.os
  tape : w'.tape = w.tape
  output : w'.output = w.output
  size : w.heap.size ≤ w'.heap.size
  same : ∀ g, g < w.heap.size → P g → w'.heap[g]? = w.heap[g]?
theorem Kq.refl (P : Nat → Prop) (w : World) : Kq P w w := ⟨rfl, rfl, rfl, Nat.le_refl _, fun _ _ _ => rfl⟩
theorem Kq.trans {P : Nat → Prop} {w w1 w2 : World} (h : Kq P w w1) (k : Kq P w1 w2) : Kq P w w2 :=
  ⟨k.os.trans h.os, k.tape.trans h.tape, k.output.trans h.output, Nat.le_trans h.size k.size, fun g hg hp => (k.same g (Nat.lt_of_lt_of_le hg h.size) hp).trans (h.same g hg hp)⟩
theorem Kq.mono {P Q : Nat → Prop} {w w1 : World} (h : Kq P w w1) (hq : ∀ g, g < w.heap.size → Q g → P g) : Kq Q w w1 :=
  ⟨h.os, h.tape, h.output, h.size, fun g hg hp => h.same g hg (hq g hg hp)⟩
theorem Ext.kq {P : Nat → Prop} {w w1 : World} (h : Ext w w1) : Kq P w w1 := ⟨h.os, h.tape, h.output, h.size, fun g hg _ => h.block g hg⟩
theorem Wr.kq {P : Nat → Prop} {b : Nat} {w w1 : World} (h : Wr b w w1) (hb : ¬ P b) : Kq P w w1 :=
  ⟨h.os, h.tape, h.output, Nat.le_of_eq h.size.symm, fun g _ hp => h.block g fun e => hb (e ▸ hp)⟩
theorem Kp.kq {P : Nat → Prop} {b : Nat} {w w1 : World} (h : Kp b w w1) (hb : ¬ P b) : Kq P w w1 :=
  ⟨h.os, h.tape, h.output, h.size, fun g hg hp => h.block g hg fun e => hb (e ▸ hp)⟩
theorem Grew.kq {P : Nat → Prop} {B : Nat} {v : Value} {w w1 : World} (h : Grew B v w w1) (hv : ∀ g, v.ownBlock = some g → ¬ P g) : Kq P w w1 := by
  have hb := h.below w (Below.refl _ _)
  exact ⟨hb.os, hb.tape, hb.output, h.size, fun g hg hp => h.block g hg fun e => hv g e.symm hp⟩
theorem Own2.np {P : Nat → Prop} {w : World} {v v' : Value} (h : Own2 w v v') (hv : ∀ g, v.ownBlock = some g → ¬ P g) (hn : ¬ P w.heap.size) : ∀ g, v'.ownBlock = some g → ¬ P g := by
  intro g hg
  rcases h with h | h
  · exact hv g (h ▸ hg)
  · rw [h] at hg
    cases hg
    exact hn
end Go.Vg
end
section
open Go Go.Vg Go.RowKit Go.Proofs Go.Proofs.YtmkckngecjpklaaDoor
namespace Go.Proofs.YtmkckngecjpklaaDoor
set_option linter.unusedSimpArgs false

theorem Bx.uniq {w : World} {b : Nat} {us vs : List Value} (h : Bx w b us) (k : Bx w b vs) : us = vs := by
  obtain ⟨t, h⟩ := h
  obtain ⟨t', k⟩ := k
  rw [h] at k
  cases k
  rfl
/-- a step's cells -/
def stC (k : Rx.K) (p : Value) : List Value := [.int .i64 k.kind, p, .int .i64 k.slot, .int .i64 k.a, .int .i64 k.b]
/-- a step's set: the tree, or none -/
def Stp (Q : Nat → Prop) (w0 : World) (k : Rx.K) (p : Value) : Prop := (k.kind = 0 ∧ Tr w0 Q (.set k.l k.neg) p) ∨ (k.kind ≠ 0 ∧ p = .pointer none)
theorem Stp.isPtr {Q : Nat → Prop} {w0 : World} {k : Rx.K} {p : Value} (h : Stp Q w0 k p) : ∃ a, p = .pointer a := by
  rcases h with ⟨_, h⟩ | ⟨_, h⟩
  · obtain ⟨b, rfl⟩ := h.isPtr
    exact ⟨_, rfl⟩
  · exact ⟨_, h⟩
/-- steps in memory -/
structure Sts (P Q : Nat → Prop) (w0 w : World) (mb : Nat) (v : Value) (ps : List Value) (st : List Rx.K) : Prop where
  ow : Owns w (mb + 1) v 83 5 (List.zipWith stC st ps)
  len : ps.length = st.length
  tr : ∀ (i : Nat) (k : Rx.K) (p : Value), st[i]? = some k → ps[i]? = some p → Stp Q w0 k p
  np : ∀ g, v.ownBlock = some g → ¬ P g
/-- a maker in memory -/
structure MkS (P Q : Nat → Prop) (w0 w : World) (mb : Nat) (m : Rx.Mk) : Prop where
  kq : Kq P w0 w
  pl : ∀ g, P g → g < w0.heap.size
  sub : ∀ g, Q g → P g
  np : ¬ P mb
  ex : ∃ v ps, Bx w mb [v, .bool m.full] ∧ Sts P Q w0 w mb v ps m.st
  le : m.st.length ≤ 2000
theorem MkS.kt {P Q : Nat → Prop} {w0 w : World} {mb : Nat} {m : Rx.Mk} (h : MkS P Q w0 w mb m) : Kq Q w0 w := h.kq.mono fun g _ hq => h.sub g hq
theorem Sts.zl {P Q : Nat → Prop} {w0 w : World} {mb : Nat} {v : Value} {ps : List Value} {st : List Rx.K} (h : Sts P Q w0 w mb v ps st) : (List.zipWith stC st ps).length = st.length := by
  rw [List.length_zipWith, h.len, Nat.min_self]
theorem Sts.same {P Q : Nat → Prop} {w0 w w' : World} {mb : Nat} {v : Value} {ps : List Value} {st : List Rx.K} (h : Sts P Q w0 w mb v ps st) (hs : ∀ g, g < w.heap.size → v.ownBlock = some g → w'.heap[g]? = w.heap[g]?) : Sts P Q w0 w' mb v ps st := ⟨h.ow.same hs, h.len, h.tr, h.np⟩

set_option maxHeartbeats 2000000 in
theorem put_ok {P Q : Nat → Prop} (w0 w : World) (mb : Nat) (m : Rx.Mk) (k : Rx.K) (p : Value) (h : MkS P Q w0 w mb m) (hp : Stp Q w0 k p) :
    Ret Tryd.prog 33 ⟨[ptr mb, .agg ⟨stC k p⟩]⟩ w fun r w' => r = .int .i64 (Rx.put m k).2 ∧ MkS P Q w0 w' mb (Rx.put m k).1 := by
  obtain ⟨hkq, hpl, hsub, hnp, ⟨v, ps, hbx, hst⟩, hle⟩ := h
  obtain ⟨pa, rfl⟩ := hp.isPtr
  have hvs := hst.ow.sli
  have hzl := hst.zl
  refine ret_of_G Tryd.func33 rfl Tryd.ntmps33 rfl ?_
  simp only [argEnv]
  try (first | refine gl tb ?_ | refine gg tb ?_ | refine ll tb ?_ | refine lg tb ?_); repeat ((first | refine G.condT rfl ?_ | refine G.condF rfl ?_ | refine sFa tb ?_ | refine sLd tb ?_ | refine sLa tb ?_ | refine sLen tb ?_ | refine sFd tb ?_ | refine sBd tb ?_ | refine sBa tb ?_); try (first | refine gl tb ?_ | refine gg tb ?_ | refine ll tb ?_ | refine lg tb ?_))
  refine sBox (fun W1 hb1 hs1 hx1 => ?_)
  have hbx1 := hbx.to hx1
  have hbxl := hbx.lt
  try (first | refine gl tb ?_ | refine gg tb ?_ | refine ll tb ?_ | refine lg tb ?_); repeat ((first | refine G.condT rfl ?_ | refine G.condF rfl ?_ | refine sFa tb ?_ | refine sLd tb ?_ | refine sLa tb ?_ | refine sLen tb ?_ | refine sFd tb ?_ | refine sBd tb ?_ | refine sBa tb ?_); try (first | refine gl tb ?_ | refine gg tb ?_ | refine ll tb ?_ | refine lg tb ?_))
  rw [hzl]
  try (first | refine gl tb ?_ | refine gg tb ?_ | refine ll tb ?_ | refine lg tb ?_); repeat ((first | refine G.condT rfl ?_ | refine G.condF rfl ?_ | refine sFa tb ?_ | refine sLd tb ?_ | refine sLa tb ?_ | refine sLen tb ?_ | refine sFd tb ?_ | refine sBd tb ?_ | refine sBa tb ?_); try (first | refine gl tb ?_ | refine gg tb ?_ | refine ll tb ?_ | refine lg tb ?_))
  first | refine G.condD rfl (fun hc => ?_) (fun hc => ?_) | refine G.condN rfl (fun hc => ?_) (fun hc => ?_) | refine G.cond rfl (fun hc => ?_) (fun hc => ?_)
  · have hc1 : 2000 ≤ m.st.length := by omega
    try (first | refine gl tb ?_ | refine gg tb ?_ | refine ll tb ?_ | refine lg tb ?_); repeat ((first | refine G.condT rfl ?_ | refine G.condF rfl ?_ | refine sFa tb ?_ | refine sLd tb ?_ | refine sLa tb ?_ | refine sLen tb ?_ | refine sFd tb ?_ | refine sBd tb ?_ | refine sBa tb ?_); try (first | refine gl tb ?_ | refine gg tb ?_ | refine ll tb ?_ | refine lg tb ?_))
    refine sSf tb (fun W2 hb2 hw2 => ?_)
    try (first | refine gl tb ?_ | refine gg tb ?_ | refine ll tb ?_ | refine lg tb ?_); repeat ((first | refine G.condT rfl ?_ | refine G.condF rfl ?_ | refine sFa tb ?_ | refine sLd tb ?_ | refine sLa tb ?_ | refine sLen tb ?_ | refine sFd tb ?_ | refine sBd tb ?_ | refine sBa tb ?_); try (first | refine gl tb ?_ | refine gg tb ?_ | refine ll tb ?_ | refine lg tb ?_))
    refine G.ret1 rfl rfl rfl rfl ?_
    refine ⟨?_, (hkq.trans hx1.kq).trans (hw2.kq hnp), hpl, hsub, hnp, ⟨v, ps, ?_, ?_⟩, ?_⟩
    · unfold Rx.put; rw [if_pos hc1]; rfl
    · unfold Rx.put; rw [if_pos hc1]; exact hb2
    · unfold Rx.put; rw [if_pos hc1]
      exact hst.same fun q hq e => by
        have := (hst.ow.lt q e).1
        rw [hw2.block q (by omega), hx1.block q hq]
    · unfold Rx.put; rw [if_pos hc1]; exact hle
  · have hc1 : ¬ 2000 ≤ m.st.length := by omega
    have hpe : Rx.put m k = (⟨m.st ++ [k], m.full⟩, m.st.length) := by unfold Rx.put; rw [if_neg hc1]
    rw [hpe]
    try (first | refine gl tb ?_ | refine gg tb ?_ | refine ll tb ?_ | refine lg tb ?_); repeat ((first | refine G.condT rfl ?_ | refine G.condF rfl ?_ | refine sFa tb ?_ | refine sLd tb ?_ | refine sLa tb ?_ | refine sLen tb ?_ | refine sFd tb ?_ | refine sBd tb ?_ | refine sBa tb ?_); try (first | refine gl tb ?_ | refine gg tb ?_ | refine ll tb ?_ | refine lg tb ?_))
    refine G.regionG (fun _ => True) mixed trivial ?_
    refine GD.steps ([(0, true), (1, true), (2, true), (3, true)]) (by kernel_rfl) (by kernel_rfl) rfl ?_
    try (refine mm tb ?_); repeat ((first | refine dFa tb ?_ | refine dLd tb ?_ | refine dLa tb ?_ | refine dLen tb ?_ | refine dFd tb ?_); try (refine mm tb ?_))
    refine GM.nil ?_
    have hxd := Ext.drew W1
    have hbd := hbx1.to hxd
    have hbB : Bx W1.drew w.heap.size (stC k (.pointer pa)) := hb1.to hxd
    refine GD.join [0, 1, 2, 3, 4, 5, 6] (fun u : Value => [(0, none, ptr mb), (14, none, ptr mb), (18, none, v), (20, none, u)]) (fun u w' => Ext W1.drew w' ∧ Owns w' W1.heap.size u 83 5 [stC k (.pointer pa)]) ?_ fun meet => ?_
    rotate_left
    · refine GD.two (4) (5) (by kernel_rfl) (by kernel_rfl) rfl rfl ?_ ?_
      · refine (Step.load1 tb rfl (Op1.of rfl (by first | exact fun _ => rfl | exact fun h => h | exact fun h => bL h | exact fun h => bL (bL h) | exact fun h => bL (bL (bL h)))) rfl rfl (fun _ => hbd.c0 rfl) rfl ?_)
        refine ⟨trivial, ?_⟩
        refine GD.steps ([(5, false), (6, false)]) (by kernel_rfl) (by kernel_rfl) rfl ?_
        refine GM.eff (Step.loadA tb rfl (Op1.of rfl (by first | exact fun _ => rfl | exact fun h => h | exact fun h => bL h | exact fun h => bL (bL h) | exact fun h => bL (bL (bL h)))) rfl rfl rfl (fun _ => hbB.cells) (fun _ => rfl) rfl ⟨trivial, ?_⟩)
        refine GM.eff (Step.buildSlice tb ([stC k (.pointer pa)]) rfl rfl rfl rfl rfl rfl (by rfl) rfl (by rfl) (by rfl) (by rfl) (by simp [stC]) rfl ?_)
        intro u W2 ho2 hs2 hx2
        refine ⟨trivial, ?_⟩
        refine GM.nil ?_
        exact meet u _ _ _ rfl rfl (by repeat (first | exact Sub.nil _ | refine Sub.cons rfl ?_)) ⟨hx2, ho2⟩
      · refine (Step.loadA tb rfl (Op1.of rfl (by first | exact fun _ => rfl | exact fun h => h | exact fun h => bL h | exact fun h => bL (bL h) | exact fun h => bL (bL (bL h)))) rfl rfl rfl (fun _ => hbB.cells) (fun _ => rfl) rfl ⟨trivial, ?_⟩)
        refine GD.two (4) (6) (by kernel_rfl) (by kernel_rfl) rfl rfl ?_ ?_
        · refine (Step.load1 tb rfl (Op1.of rfl (by first | exact fun _ => rfl | exact fun h => h | exact fun h => bL h | exact fun h => bL (bL h) | exact fun h => bL (bL (bL h)))) rfl rfl (fun _ => hbd.c0 rfl) rfl ?_)
          refine ⟨trivial, ?_⟩
          refine GD.steps ([(6, false)]) (by kernel_rfl) (by kernel_rfl) rfl ?_
          refine GM.eff (Step.buildSlice tb ([stC k (.pointer pa)]) rfl rfl rfl rfl rfl rfl (by rfl) rfl (by rfl) (by rfl) (by rfl) (by simp [stC]) rfl ?_)
          intro u W2 ho2 hs2 hx2
          refine ⟨trivial, ?_⟩
          refine GM.nil ?_
          exact meet u _ _ _ rfl rfl (by repeat (first | exact Sub.nil _ | refine Sub.cons rfl ?_)) ⟨hx2, ho2⟩
        · refine (Step.buildSlice tb ([stC k (.pointer pa)]) rfl rfl rfl rfl rfl rfl (by rfl) rfl (by rfl) (by rfl) (by rfl) (by simp [stC]) rfl ?_)
          intro u W2 ho2 hs2 hx2
          refine ⟨trivial, ?_⟩
          refine GD.steps ([(4, false)]) (by kernel_rfl) (by kernel_rfl) rfl ?_
          refine GM.eff (Step.load1 tb rfl (Op1.of rfl (by first | exact fun _ => rfl | exact fun h => h | exact fun h => bL h | exact fun h => bL (bL h) | exact fun h => bL (bL (bL h)))) rfl rfl (fun _ => (hbd.to hx2).c0 rfl) rfl ⟨trivial, ?_⟩)
          refine GM.nil ?_
          exact meet u _ _ _ rfl rfl (by repeat (first | exact Sub.nil _ | refine Sub.cons rfl ?_)) ⟨hx2, ho2⟩
    intro u W2 ⟨hx2, hu2⟩
    have hx12 := hxd.trans hx2
    have how2 := (hst.ow.to hx1).to hx12
    have hlen2 : (List.zipWith stC m.st ps).length ≤ 1999 := by omega
    have hB2 : mb + 1 ≤ W2.heap.size := by have := (hx1.trans hx12).size; omega
    have hbx2 := hbd.to hx2
    refine GD.steps ([(7, false), (8, true), (9, true), (10, false)]) (by kernel_rfl) (by kernel_rfl) rfl ?_
    refine GM.eff (Step.append2 tb rfl (Op1.of rfl (by first | exact fun _ => rfl | exact fun h => h | exact fun h => bL h | exact fun h => bL (bL h) | exact fun h => bL (bL (bL h)))) (Op1.of rfl (by first | exact fun _ => rfl | exact fun h => h | exact fun h => bL h | exact fun h => bL (bL h) | exact fun h => bL (bL (bL h)))) rfl rfl rfl (by rfl) (how2) (hu2.sli) (by intro y hy c hc; simp only [List.mem_cons, List.not_mem_nil, or_false] at hy; subst hy; simp only [stC, List.mem_cons, List.not_mem_nil, or_false] at hc; rcases hc with rfl | rfl | rfl | rfl | rfl <;> rfl) (by simp only [List.length_map, List.length_append, List.length_cons, List.length_nil, List.length_take, List.length_drop]; omega) (by simp only [List.length_map, List.length_append, List.length_cons, List.length_nil, List.length_take, List.length_drop]; omega) (hB2) rfl ?_)
    intro v3 W3 hv3 hg3 ho3
    have hsz0 := hkq.size
    have hsz2 := (hx1.trans hx12).size
    have hnp3 := ho3.np hst.np (fun e => by have := hpl _ e; omega)
    have hne : some mb ≠ v.ownBlock := fun e => by have := (hst.ow.lt mb e.symm).1; omega
    have hbx3 := hbx2.grew hg3 hne
    refine ⟨trivial, ?_⟩
    try (refine mm tb ?_); repeat ((first | refine dFa tb ?_ | refine dLd tb ?_ | refine dLa tb ?_ | refine dLen tb ?_ | refine dFd tb ?_); try (refine mm tb ?_))
    refine GM.eff (Step.store tb (off := 0) rfl (Op1.of rfl (by first | exact fun _ => rfl | exact fun h => h | exact fun h => bL h | exact fun h => bL (bL h) | exact fun h => bL (bL (bL h)))) (Op1.of rfl (by first | exact fun _ => rfl | exact fun h => h | exact fun h => bL h | exact fun h => bL (bL h) | exact fun h => bL (bL (bL h)))) rfl hv3.cells rfl hv3.sli.one hbx3 (by exact of_decide_eq_true rfl) ?_)
    intro W4 hb4 hw4
    refine ⟨trivial, ?_⟩
    refine GM.nil ?_
    refine GD.done (by kernel_rfl) ?_
    have hb4 : Bx W4 mb [v3, .bool m.full] := hb4
    have hst4 : Sts P Q w0 W4 mb v3 (ps ++ [.pointer pa]) (m.st ++ [k]) := by
      refine ⟨?_, by simp [hst.len], ?_, hnp3⟩
      · rw [List.zipWith_append hst.len.symm]
        exact hv3.same fun q hq e => hw4.block q (by have := (hv3.lt q e).1; omega)
      · intro i k' p' h1 h2
        by_cases hi : i < m.st.length
        · rw [List.getElem?_append_left hi] at h1
          rw [List.getElem?_append_left (by rw [hst.len]; exact hi)] at h2
          exact hst.tr i k' p' h1 h2
        · rw [List.getElem?_append_right (by omega)] at h1
          rw [List.getElem?_append_right (by rw [hst.len]; omega), hst.len] at h2
          rcases hj : i - m.st.length with _ | j
          · rw [hj] at h1 h2
            simp only [List.getElem?_cons_zero, Option.some.injEq] at h1 h2
            subst h1 h2
            exact hp
          · rw [hj] at h1; simp at h1
    have hv4 := hst4.ow.sli
    have hzl4 := hst4.zl
    try (first | refine gl tb ?_ | refine gg tb ?_ | refine ll tb ?_ | refine lg tb ?_); repeat ((first | refine G.condT rfl ?_ | refine G.condF rfl ?_ | refine sFa tb ?_ | refine sLd tb ?_ | refine sLa tb ?_ | refine sLen tb ?_ | refine sFd tb ?_ | refine sBd tb ?_ | refine sBa tb ?_); try (first | refine gl tb ?_ | refine gg tb ?_ | refine ll tb ?_ | refine lg tb ?_))
    rw [hzl4]
    try (first | refine gl tb ?_ | refine gg tb ?_ | refine ll tb ?_ | refine lg tb ?_); repeat ((first | refine G.condT rfl ?_ | refine G.condF rfl ?_ | refine sFa tb ?_ | refine sLd tb ?_ | refine sLa tb ?_ | refine sLen tb ?_ | refine sFd tb ?_ | refine sBd tb ?_ | refine sBa tb ?_); try (first | refine gl tb ?_ | refine gg tb ?_ | refine ll tb ?_ | refine lg tb ?_))
    refine sAd tb (r := ((m.st.length : Nat) : Int)) ?_ (hp := by simp only [List.length_append, List.length_cons, List.length_nil]; rw [wrap_i64 (by omega) (by omega)]; omega)
    try (first | refine gl tb ?_ | refine gg tb ?_ | refine ll tb ?_ | refine lg tb ?_); repeat ((first | refine G.condT rfl ?_ | refine G.condF rfl ?_ | refine sFa tb ?_ | refine sLd tb ?_ | refine sLa tb ?_ | refine sLen tb ?_ | refine sFd tb ?_ | refine sBd tb ?_ | refine sBa tb ?_); try (first | refine gl tb ?_ | refine gg tb ?_ | refine ll tb ?_ | refine lg tb ?_))
    refine G.ret1 rfl rfl rfl rfl ?_
    have hb04 : Kq P w0 W4 := ((hkq.trans (hx1.trans hx12).kq).trans (hg3.kq hst.np)).trans (hw4.kq hnp)
    exact ⟨rfl, hb04, hpl, hsub, hnp, ⟨v3, _, hb4, hst4⟩, by simp only [List.length_append, List.length_cons, List.length_nil]; omega⟩

theorem stC_getD {st : List Rx.K} {ps : List Value} {i : Nat} {k : Rx.K} {p : Value} (hk : st[i]? = some k) (hp : ps[i]? = some p) : (List.zipWith stC st ps).getD i [] = stC k p := by
  rw [List.getD_eq_getElem?_getD, List.getElem?_zipWith, hk, hp]; rfl
theorem zip_set {st : List Rx.K} {ps : List Value} {i : Nat} {k : Rx.K} {p : Value} (hp : ps[i]? = some p) : (List.zipWith stC st ps).set i (stC k p) = List.zipWith stC (st.set i k) ps := by
  apply List.ext_getElem?
  intro j
  rw [List.getElem?_zipWith, List.getElem?_set]
  by_cases hij : i = j
  · subst hij
    simp only [if_true]
    have hl := (List.getElem?_eq_some_iff.1 hp).1
    rw [List.length_zipWith, List.getElem?_set]
    simp only [if_true]
    by_cases hs : i < st.length
    · rw [if_pos (by omega), if_pos hs, hp]
    · rw [if_neg (by omega), if_neg hs]
  · simp only [if_neg hij]
    rw [List.getElem?_zipWith, List.getElem?_set_ne hij]

set_option maxHeartbeats 2000000 in
theorem fork_okB {P Q : Nat → Prop} (w0 w : World) (mb : Nat) (m : Rx.Mk) (i a b : Nat) (turned : Bool) (h : MkS P Q w0 w mb m) (hi : m.full = false → i < m.st.length) :
    Ret Tryd.prog 51 ⟨[ptr mb, .int .i64 i, .int .i64 a, .int .i64 b, .bool turned]⟩ w fun _ w' => MkS P Q w0 w' mb (Rx.fork m i a b turned) ∧ ∀ v0, Bx w mb [v0, .bool m.full] → Bx w' mb [v0, .bool m.full] := by
  obtain ⟨hkq, hpl, hsub, hnp, ⟨v, ps, hbx, hst⟩, hle⟩ := h
  have hvs := hst.ow.sli
  have hzl := hst.zl
  refine ret_of_G Tryd.func51 rfl Tryd.ntmps51 rfl ?_
  simp only [argEnv]
  try (first | refine gl tb ?_ | refine gg tb ?_ | refine ll tb ?_ | refine lg tb ?_); repeat ((first | refine G.condT rfl ?_ | refine G.condF rfl ?_ | refine sFa tb ?_ | refine sLd tb ?_ | refine sLa tb ?_ | refine sLen tb ?_ | refine sFd tb ?_ | refine sBd tb ?_ | refine sBa tb ?_); try (first | refine gl tb ?_ | refine gg tb ?_ | refine ll tb ?_ | refine lg tb ?_))
  first | refine G.condD rfl (fun hc => ?_) (fun hc => ?_) | refine G.condN rfl (fun hc => ?_) (fun hc => ?_) | refine G.cond rfl (fun hc => ?_) (fun hc => ?_)
  · have hm : Rx.fork m i a b turned = m := by unfold Rx.fork; rw [if_pos hc]
    rw [hm]
    refine G.ret0 rfl rfl rfl ?_
    exact ⟨⟨hkq, hpl, hsub, hnp, ⟨v, ps, hbx, hst⟩, hle⟩, fun _ h => h⟩
  · have hf : m.full = false := hc
    have hi := hi hf
    obtain ⟨k, hk⟩ : ∃ k, m.st[i]? = some k := ⟨_, List.getElem?_eq_getElem hi⟩
    obtain ⟨p, hp⟩ : ∃ p, ps[i]? = some p := ⟨_, List.getElem?_eq_getElem (by rw [hst.len]; exact hi)⟩
    try (first | refine gl tb ?_ | refine gg tb ?_ | refine ll tb ?_ | refine lg tb ?_); repeat ((first | refine G.condT rfl ?_ | refine G.condF rfl ?_ | refine sFa tb ?_ | refine sLd tb ?_ | refine sLa tb ?_ | refine sLen tb ?_ | refine sFd tb ?_ | refine sBd tb ?_ | refine sBa tb ?_); try (first | refine gl tb ?_ | refine gg tb ?_ | refine ll tb ?_ | refine lg tb ?_))
    refine G.join (fun q : Nat × Nat => [(0, none, ptr mb), (1, none, .int .i64 i), (2, none, .int .i64 q.1), (3, none, .int .i64 q.2)]) (fun q w' => w = w' ∧ Rx.fork m i a b turned = ⟨Rx.setAB m.st i q.1 q.2, m.full⟩) ?_ ?_
    rotate_left
    · first | refine G.condD rfl (fun hc => ?_) (fun hc => ?_) | refine G.condN rfl (fun hc => ?_) (fun hc => ?_) | refine G.cond rfl (fun hc => ?_) (fun hc => ?_)
      · try (first | refine gl tb ?_ | refine gg tb ?_ | refine ll tb ?_ | refine lg tb ?_); repeat ((first | refine G.condT rfl ?_ | refine G.condF rfl ?_ | refine sFa tb ?_ | refine sLd tb ?_ | refine sLa tb ?_ | refine sLen tb ?_ | refine sFd tb ?_ | refine sBd tb ?_ | refine sBa tb ?_); try (first | refine gl tb ?_ | refine gg tb ?_ | refine ll tb ?_ | refine lg tb ?_))
        exact G.met (b, a) (by repeat (first | exact Sub.nil _ | refine Sub.cons rfl ?_)) ⟨rfl, by unfold Rx.fork; rw [hf, hc]; rfl⟩
      · try (first | refine gl tb ?_ | refine gg tb ?_ | refine ll tb ?_ | refine lg tb ?_); repeat ((first | refine G.condT rfl ?_ | refine G.condF rfl ?_ | refine sFa tb ?_ | refine sLd tb ?_ | refine sLa tb ?_ | refine sLen tb ?_ | refine sFd tb ?_ | refine sBd tb ?_ | refine sBa tb ?_); try (first | refine gl tb ?_ | refine gg tb ?_ | refine ll tb ?_ | refine lg tb ?_))
        exact G.met (a, b) (by repeat (first | exact Sub.nil _ | refine Sub.cons rfl ?_)) ⟨rfl, by unfold Rx.fork; rw [hf, hc]; rfl⟩
    rintro ⟨x, y⟩ _ ⟨rfl, hm⟩
    simp only at hm ⊢
    rw [hm]
    have hxd := Ext.drew w
    have hod := hst.ow.to hxd
    have hbd := hbx.to hxd
    have hne : some mb ≠ v.ownBlock := fun e => by have := (hst.ow.lt mb e.symm).1; omega
    have hget : (List.zipWith stC m.st ps)[i]? = some (stC k p) := by rw [List.getElem?_zipWith, hk, hp]
    try (first | refine gl tb ?_ | refine gg tb ?_ | refine ll tb ?_ | refine lg tb ?_); repeat ((first | refine G.condT rfl ?_ | refine G.condF rfl ?_ | refine sFa tb ?_ | refine sLd tb ?_ | refine sLa tb ?_ | refine sLen tb ?_ | refine sFd tb ?_ | refine sBd tb ?_ | refine sBa tb ?_); try (first | refine gl tb ?_ | refine gg tb ?_ | refine ll tb ?_ | refine lg tb ?_))
    refine G.regionM [(0, true), (1, true), (2, true), (3, true), (4, true), (5, true), (6, true), (7, true), (8, true), (9, true), (10, true), (11, true), (12, true), (13, true), (14, false), (15, true), (16, true), (17, false)] (fun w' => Bx w' mb [v, .bool m.full]) (by kernel_rfl) (by kernel_rfl) rfl mixed (hbd) rfl ?_
    try (refine mm tb ?_); repeat ((first | refine dFa tb ?_ | refine dLd tb ?_ | refine dLa tb ?_ | refine dLen tb ?_ | refine dFd tb ?_); try (refine mm tb ?_))
    refine dLd tb (u := v) ?_ (hc := fun w' hS _ => Bx.c0 hS (by exact rfl))
    try (refine mm tb ?_); repeat ((first | refine dFa tb ?_ | refine dLd tb ?_ | refine dLa tb ?_ | refine dLen tb ?_ | refine dFd tb ?_); try (refine mm tb ?_))
    refine dLd tb (u := v) ?_ (hc := fun w' hS _ => Bx.c0 hS (by exact rfl))
    try (refine mm tb ?_); repeat ((first | refine dFa tb ?_ | refine dLd tb ?_ | refine dLa tb ?_ | refine dLen tb ?_ | refine dFd tb ?_); try (refine mm tb ?_))
    refine dIa tb i ?_ (hj := fun _ => ⟨rfl, by rw [hzl]; exact hi⟩)
    try (refine mm tb ?_); repeat ((first | refine dFa tb ?_ | refine dLd tb ?_ | refine dLa tb ?_ | refine dLen tb ?_ | refine dFd tb ?_); try (refine mm tb ?_))
    refine GM.eff (Step.storeRowF tb (j := i) (off := 3) rfl (Op1.of rfl (by first | exact fun _ => rfl | exact fun h => h | exact fun h => bL h | exact fun h => bL (bL h) | exact fun h => bL (bL (bL h)))) (Op1.of rfl (by first | exact fun _ => rfl | exact fun h => h | exact fun h => bL h | exact fun h => bL (bL h) | exact fun h => bL (bL (bL h)))) rfl rfl rfl hod (by rw [hzl]; exact hi) (by decide) ?_)
    intro W1 ho1 hg1
    have hb1 := hbd.grew hg1 hne
    refine ⟨hb1, ?_⟩
    have e1 : ((List.zipWith stC m.st ps).getD i []).set 3 (.int .i64 x) = stC { k with a := x } p := by rw [stC_getD hk hp]; rfl
    rw [e1, zip_set hp] at ho1
    have hk1 : (m.st.set i { k with a := x })[i]? = some { k with a := x } := by rw [List.getElem?_set]; simp [hi]
    have hzl1 : (List.zipWith stC (m.st.set i { k with a := x }) ps).length = m.st.length := by rw [List.length_zipWith, List.length_set, hst.len, Nat.min_self]
    try (refine mm tb ?_); repeat ((first | refine dFa tb ?_ | refine dLd tb ?_ | refine dLa tb ?_ | refine dLen tb ?_ | refine dFd tb ?_); try (refine mm tb ?_))
    refine dIa tb i ?_ (hj := fun _ => ⟨rfl, by rw [hzl]; exact hi⟩)
    try (refine mm tb ?_); repeat ((first | refine dFa tb ?_ | refine dLd tb ?_ | refine dLa tb ?_ | refine dLen tb ?_ | refine dFd tb ?_); try (refine mm tb ?_))
    refine GM.eff (Step.storeRowF tb (j := i) (off := 4) rfl (Op1.of rfl (by first | exact fun _ => rfl | exact fun h => h | exact fun h => bL h | exact fun h => bL (bL h) | exact fun h => bL (bL (bL h)))) (Op1.of rfl (by first | exact fun _ => rfl | exact fun h => h | exact fun h => bL h | exact fun h => bL (bL h) | exact fun h => bL (bL (bL h)))) rfl rfl rfl ho1 (by rw [hzl1]; exact hi) (by decide) ?_)
    intro W2 ho2 hg2
    have hb2 := hb1.grew hg2 hne
    refine ⟨hb2, ?_⟩
    have e2 : ((List.zipWith stC (m.st.set i { k with a := x }) ps).getD i []).set 4 (.int .i64 y) = stC { k with a := x, b := y } p := by rw [stC_getD hk1 hp]; rfl
    rw [e2, zip_set hp, List.set_set] at ho2
    refine GM.nil ?_
    have hm2 : Rx.setAB m.st i x y = m.st.set i { k with a := x, b := y } := by unfold Rx.setAB; rw [hk]
    rw [hm2]
    refine G.end0 rfl rfl rfl ?_
    refine ⟨?_, fun v0 h0 => by have e := List.head_eq_of_cons_eq (Bx.uniq h0 hbx); rw [e]; exact hb2⟩
    refine ⟨?_, hpl, hsub, hnp, ⟨v, ps, hb2, ho2, by rw [List.length_set]; exact hst.len, fun j k' p' h1 h2 => ?_, hst.np⟩, by simp only [List.length_set]; exact hle⟩
    · exact ((hkq.trans hxd.kq).trans (hg1.kq hst.np)).trans (hg2.kq hst.np)
    · by_cases hj : i = j
      · subst hj
        rw [List.getElem?_set] at h1
        simp only [if_true, hi, Option.some.injEq] at h1
        subst h1
        exact hst.tr i k p' hk h2
      · rw [List.getElem?_set_ne hj] at h1
        exact hst.tr j k' p' h1 h2
theorem fork_ok {P Q : Nat → Prop} (w0 w : World) (mb : Nat) (m : Rx.Mk) (i a b : Nat) (turned : Bool) (h : MkS P Q w0 w mb m) (hi : m.full = false → i < m.st.length) :
    Ret Tryd.prog 51 ⟨[ptr mb, .int .i64 i, .int .i64 a, .int .i64 b, .bool turned]⟩ w fun _ w' => MkS P Q w0 w' mb (Rx.fork m i a b turned) := (fork_okB w0 w mb m i a b turned h hi).mono fun _ _ h => h.1
end Go.Proofs.YtmkckngecjpklaaDoor
end
section
namespace Go.Rx

/-- m' goes on from m -/
def Gr (m m' : Mk) : Prop := m.st.length ≤ m'.st.length ∧ (m.full = true → m'.full = true)
theorem Gr.refl (m : Mk) : Gr m m := ⟨Nat.le_refl _, id⟩
theorem Gr.trans {a b c : Mk} (h : Gr a b) (k : Gr b c) : Gr a c := ⟨Nat.le_trans h.1 k.1, fun x => k.2 (h.2 x)⟩
theorem Gr.ok {a b : Mk} (h : Gr a b) (hb : b.full = false) : a.full = false := by
  cases ha : a.full with
  | false => rfl
  | true => rw [h.2 ha] at hb; cases hb
theorem put_gr (m : Mk) (k : K) : Gr m (put m k).1 := by
  unfold put; split
  · exact ⟨Nat.le_refl _, fun _ => rfl⟩
  · exact ⟨by simp, id⟩
theorem put_at {m : Mk} {k : K} (h : (put m k).1.full = false) : (put m k).2 = m.st.length ∧ (put m k).1.st.length = m.st.length + 1 := by
  unfold put at h ⊢; split
  · rename_i hc; rw [if_pos hc] at h; cases h
  · exact ⟨rfl, by simp⟩
theorem setAB_len (st : List K) (i a b : Nat) : (setAB st i a b).length = st.length := by
  unfold setAB; split
  · simp
  · rfl
theorem setA_len (st : List K) (i a : Nat) : (setA st i a).length = st.length := by
  unfold setA; split
  · simp
  · rfl
theorem fork_gr (m : Mk) (i a b : Nat) (t : Bool) : Gr m (fork m i a b t) := by
  unfold fork; split
  · exact Gr.refl m
  · exact ⟨by simp only; split <;> rw [setAB_len] <;> exact Nat.le_refl _, id⟩
theorem fork_len (m : Mk) (i a b : Nat) (t : Bool) : (fork m i a b t).st.length = m.st.length := by
  unfold fork; split
  · rfl
  · simp only; split <;> rw [setAB_len]
theorem fork_full (m : Mk) (i a b : Nat) (t : Bool) : (fork m i a b t).full = m.full := by
  unfold fork; split <;> rfl
theorem jumpTo_gr (m : Mk) (i : Nat) : Gr m (jumpTo m i) := by
  unfold jumpTo; split
  · exact Gr.refl m
  · exact ⟨by simp only; rw [setA_len]; exact Nat.le_refl _, id⟩
theorem loopN_gr {f : Mk → Mk} (hf : ∀ m, Gr m (f m)) (mn : Nat) : ∀ (n k : Nat) (was : Int) (m : Mk), Gr m (loopN f mn n k was m)
  | 0, _, _, m => Gr.refl m
  | n + 1, k, was, m => by
    rw [loopN]; split
    · exact (hf m).trans (loopN_gr hf mn n (k + 1) _ _)
    · exact Gr.refl m
theorem loopF_gr {f : Mk → Mk} (hf : ∀ m, Gr m (f m)) : ∀ (n : Nat) (l : List Nat) (m : Mk), Gr m (loopF f n l m).1
  | 0, _, m => Gr.refl m
  | n + 1, l, m => by
    rw [loopF]; split
    · exact Gr.refl m
    · exact ((put_gr m (kOf 4)).trans (hf _)).trans (loopF_gr hf n _ _)
theorem forks_gr (few : Bool) : ∀ (l : List Nat) (m : Mk), Gr m (forks few l m)
  | [], m => Gr.refl m
  | _ :: l, m => (fork_gr m _ _ _ _).trans (forks_gr few l _)
theorem repeatP_gr {f : Mk → Mk} (hf : ∀ m, Gr m (f m)) (mn : Nat) (mx : Int) (few plus : Bool) (m : Mk) : Gr m (repeatP f mn mx few plus m) := by
  unfold repeatP; split
  · exact ((hf m).trans (put_gr _ _)).trans (fork_gr _ _ _ _ _)
  · simp only
    split
    · exact ((((loopN_gr hf mn mn 0 (-1) m).trans (put_gr _ _)).trans (hf _)).trans (put_gr _ _)).trans (fork_gr _ _ _ _ _)
    · exact ((loopN_gr hf mn mn 0 (-1) m).trans (loopF_gr hf _ _ _)).trans (forks_gr _ _ _)
mutual
theorem make_gr : ∀ (t : T) (m : Mk), Gr m (make t m)
  | .emp, m => by rw [make]; exact Gr.refl m
  | .set l neg, m => by rw [make]; split <;> first | exact Gr.refl m | exact put_gr _ _
  | .bos, m => by rw [make]; split <;> first | exact Gr.refl m | exact put_gr _ _
  | .eos, m => by rw [make]; split <;> first | exact Gr.refl m | exact put_gr _ _
  | .grp n t, m => by
    rw [make]; split
    · exact Gr.refl m
    · split
      · exact make_gr t m
      · exact ((put_gr _ _).trans (make_gr t _)).trans (put_gr _ _)
  | .seq l, m => by rw [make]; split <;> first | exact Gr.refl m | exact makeL_gr l m
  | .alt a b, m => by
    rw [make]; split
    · exact Gr.refl m
    · exact (((((put_gr _ _).trans (make_gr a _)).trans (put_gr _ _)).trans (fork_gr _ _ _ _ _)).trans (make_gr b _)).trans (jumpTo_gr _ _)
  | .rep mn mx few plus t, m => by rw [make]; split <;> first | exact Gr.refl m | exact repeatP_gr (make_gr t) _ _ _ _ m
theorem makeL_gr : ∀ (l : List T) (m : Mk), Gr m (makeL l m)
  | [], m => by rw [makeL]; exact Gr.refl m
  | t :: l, m => by rw [makeL]; exact (make_gr t m).trans (makeL_gr l _)
end
end Go.Rx
end
section
open Go Go.Vg Go.RowKit Go.Proofs Go.Proofs.YtmkckngecjpklaaDoor
namespace Go.Proofs.YtmkckngecjpklaaDoor
set_option linter.unusedSimpArgs false

def MakeC (t : Rx.T) : Prop := ∀ (P Q : Nat → Prop) (w0 w : World) (mb : Nat) (m : Rx.Mk) (v : Value), MkS P Q w0 w mb m → Tr w0 Q t v →
  Ret Tryd.prog 32 ⟨[ptr mb, v]⟩ w fun _ w' => MkS P Q w0 w' mb (Rx.make t m)
def RepeatC (t : Rx.T) (mn : Nat) (mx : Int) (few plus : Bool) : Prop := ∀ (P Q : Nat → Prop) (w0 w : World) (mb : Nat) (m : Rx.Mk) (v : Value), MkS P Q w0 w mb m → Tr w0 Q (.rep mn mx few plus t) v →
  Ret Tryd.prog 52 ⟨[ptr mb, v]⟩ w fun _ w' => MkS P Q w0 w' mb (Rx.repeatP (Rx.make t) mn mx few plus m)
/-- a tree's parts, as they stand at any time -/
theorem Tr.parts {Q : Nat → Prop} {w0 : World} {t : Rx.T} {v : Value} (h : Tr w0 Q t v) :
    ∃ (b : Nat) (sp ks : Value) (us : List Value), v = ptr b ∧ (∀ W, Kq Q w0 W → Bx W b (cellsT sp ks t)) ∧ (∀ W, Kq Q w0 W → Sli W ks 1 (us.map fun u => [u])) ∧ us.length = (kidsT t).length ∧ (∀ (i : Nat) (t' : Rx.T) (u : Value), (kidsT t)[i]? = some t' → us[i]? = some u → Tr w0 Q t' u) ∧ TrB t := by
  cases h with
  | mk b sp ks us hA hbx hs hm hk hl hkids =>
    exact ⟨b, sp, ks, us, rfl, fun W hb => hbx.same (hb.same b hbx.lt hA), fun W hb => (hk.own.same fun g hg e => hb.same g hg (hk.inn g e)).sli, hl, hkids, hm⟩
theorem put_ix (m : Rx.Mk) (k : Rx.K) : (Rx.put m k).2 ≤ m.st.length := by
  unfold Rx.put; split
  · exact Nat.zero_le _
  · exact Nat.le_refl _
theorem kof (Q : Nat → Prop) (w0 : World) (n : Nat) (h : n ≠ 0) : Stp Q w0 (Rx.kOf n) (.pointer none) := .inr ⟨h, rfl⟩

set_option maxRecDepth 100000 in
set_option maxHeartbeats 4000000 in
theorem make_ok (t : Rx.T) (ih : ∀ t' ∈ kidsT t, MakeC t') (hrep : ∀ mn mx few plus t', t = .rep mn mx few plus t' → RepeatC t' mn mx few plus) : MakeC t := by
  intro P Q w0 w mb m v h hT
  obtain ⟨b, sp, ks, us, hv, hbW, hkW, hl, hkids, hB⟩ := hT.parts
  subst hv
  obtain ⟨sv, ps, hbx, hst⟩ := h.ex
  refine ret_of_G Tryd.func32 rfl Tryd.ntmps32 rfl ?_
  simp only [argEnv]
  try (first | refine gl tb ?_ | refine gg tb ?_ | refine ll tb ?_ | refine lg tb ?_); repeat ((first | refine G.condT rfl ?_ | refine G.condF rfl ?_ | refine sFa tb ?_ | refine sLd tb ?_ | refine sLa tb ?_ | refine sLen tb ?_ | refine sFd tb ?_ | refine sBd tb ?_ | refine sBa tb ?_); try (first | refine gl tb ?_ | refine gg tb ?_ | refine ll tb ?_ | refine lg tb ?_))
  first | refine G.condD rfl (fun hc => ?_) (fun hc => ?_) | refine G.condN rfl (fun hc => ?_) (fun hc => ?_) | refine G.cond rfl (fun hc => ?_) (fun hc => ?_)
  · refine G.ret0 rfl rfl rfl ?_
    have hc : m.full = true := hc
    have : Rx.make t m = m := by cases t <;> simp [Rx.make, hc]
    rw [this]
    exact h
  have hf : m.full = false := hc
  have hfn : ¬ m.full = true := by rw [hf]; simp
  cases t with
  | emp =>
    have hm : Rx.make .emp m = m := by rw [Rx.make]
    rw [hm]
    have hb : Bx w b [.int .i64 0, sp, .bool false, .int .i64 0, .int .i64 0, .int .i64 0, .bool false, .bool false, ks] := hbW w h.kt
    try (first | refine gl tb ?_ | refine gg tb ?_ | refine ll tb ?_ | refine lg tb ?_); repeat ((first | refine G.condT rfl ?_ | refine G.condF rfl ?_ | refine sFa tb ?_ | refine sLd tb ?_ | refine sLa tb ?_ | refine sLen tb ?_ | refine sFd tb ?_ | refine sBd tb ?_ | refine sBa tb ?_); try (first | refine gl tb ?_ | refine gg tb ?_ | refine ll tb ?_ | refine lg tb ?_))
    refine G.end0 rfl rfl rfl ?_
    exact h
  | set l neg =>
    have hm : Rx.make (.set l neg) m = (Rx.put m { Rx.kOf 0 with l := l, neg := neg }).1 := by rw [Rx.make, if_neg hfn]
    rw [hm]
    have hb : Bx w b [.int .i64 1, sp, .bool neg, .int .i64 0, .int .i64 0, .int .i64 0, .bool false, .bool false, ks] := hbW w h.kt
    try (first | refine gl tb ?_ | refine gg tb ?_ | refine ll tb ?_ | refine lg tb ?_); repeat ((first | refine G.condT rfl ?_ | refine G.condF rfl ?_ | refine sFa tb ?_ | refine sLd tb ?_ | refine sLa tb ?_ | refine sLen tb ?_ | refine sFd tb ?_ | refine sBd tb ?_ | refine sBa tb ?_); try (first | refine gl tb ?_ | refine gg tb ?_ | refine ll tb ?_ | refine lg tb ?_))
    refine sCall c33 (put_ok w0 w mb m { Rx.kOf 0 with l := l, neg := neg } (ptr b) h (.inl ⟨rfl, hT⟩)) ?_
    rintro _ W1 ⟨_, h1⟩
    try (first | refine gl tb ?_ | refine gg tb ?_ | refine ll tb ?_ | refine lg tb ?_); repeat ((first | refine G.condT rfl ?_ | refine G.condF rfl ?_ | refine sFa tb ?_ | refine sLd tb ?_ | refine sLa tb ?_ | refine sLen tb ?_ | refine sFd tb ?_ | refine sBd tb ?_ | refine sBa tb ?_); try (first | refine gl tb ?_ | refine gg tb ?_ | refine ll tb ?_ | refine lg tb ?_))
    refine G.end0 rfl rfl rfl ?_
    exact h1
  | bos =>
    have hm : Rx.make .bos m = (Rx.put m (Rx.kOf 1)).1 := by rw [Rx.make, if_neg hfn]
    rw [hm]
    have hb : Bx w b [.int .i64 2, sp, .bool false, .int .i64 0, .int .i64 0, .int .i64 0, .bool false, .bool false, ks] := hbW w h.kt
    try (first | refine gl tb ?_ | refine gg tb ?_ | refine ll tb ?_ | refine lg tb ?_); repeat ((first | refine G.condT rfl ?_ | refine G.condF rfl ?_ | refine sFa tb ?_ | refine sLd tb ?_ | refine sLa tb ?_ | refine sLen tb ?_ | refine sFd tb ?_ | refine sBd tb ?_ | refine sBa tb ?_); try (first | refine gl tb ?_ | refine gg tb ?_ | refine ll tb ?_ | refine lg tb ?_))
    refine sCall c33 (put_ok w0 w mb m (Rx.kOf 1) (.pointer none) h (kof _ _ _ (by decide))) ?_
    rintro _ W1 ⟨_, h1⟩
    try (first | refine gl tb ?_ | refine gg tb ?_ | refine ll tb ?_ | refine lg tb ?_); repeat ((first | refine G.condT rfl ?_ | refine G.condF rfl ?_ | refine sFa tb ?_ | refine sLd tb ?_ | refine sLa tb ?_ | refine sLen tb ?_ | refine sFd tb ?_ | refine sBd tb ?_ | refine sBa tb ?_); try (first | refine gl tb ?_ | refine gg tb ?_ | refine ll tb ?_ | refine lg tb ?_))
    refine G.end0 rfl rfl rfl ?_
    exact h1
  | eos =>
    have hm : Rx.make .eos m = (Rx.put m (Rx.kOf 2)).1 := by rw [Rx.make, if_neg hfn]
    rw [hm]
    have hb : Bx w b [.int .i64 3, sp, .bool false, .int .i64 0, .int .i64 0, .int .i64 0, .bool false, .bool false, ks] := hbW w h.kt
    try (first | refine gl tb ?_ | refine gg tb ?_ | refine ll tb ?_ | refine lg tb ?_); repeat ((first | refine G.condT rfl ?_ | refine G.condF rfl ?_ | refine sFa tb ?_ | refine sLd tb ?_ | refine sLa tb ?_ | refine sLen tb ?_ | refine sFd tb ?_ | refine sBd tb ?_ | refine sBa tb ?_); try (first | refine gl tb ?_ | refine gg tb ?_ | refine ll tb ?_ | refine lg tb ?_))
    refine sCall c33 (put_ok w0 w mb m (Rx.kOf 2) (.pointer none) h (kof _ _ _ (by decide))) ?_
    rintro _ W1 ⟨_, h1⟩
    try (first | refine gl tb ?_ | refine gg tb ?_ | refine ll tb ?_ | refine lg tb ?_); repeat ((first | refine G.condT rfl ?_ | refine G.condF rfl ?_ | refine sFa tb ?_ | refine sLd tb ?_ | refine sLa tb ?_ | refine sLen tb ?_ | refine sFd tb ?_ | refine sBd tb ?_ | refine sBa tb ?_); try (first | refine gl tb ?_ | refine gg tb ?_ | refine ll tb ?_ | refine lg tb ?_))
    refine G.end0 rfl rfl rfl ?_
    exact h1
  | grp n t =>
    have hbW : ∀ W, Kq Q w0 W → Bx W b [.int .i64 4, sp, .bool false, .int .i64 n, .int .i64 0, .int .i64 0, .bool false, .bool false, ks] := hbW
    have hn : n ≤ 256 := hB.2.1
    have hl1 : us.length = 1 := hl
    obtain ⟨u, hu⟩ : ∃ u, us[0]? = some u := ⟨_, List.getElem?_eq_getElem (by omega)⟩
    have hTu : Tr w0 Q t u := hkids 0 t u rfl hu
    have hgetu : (us.map fun u => [u])[0]? = some [u] := by rw [List.getElem?_map, hu]; rfl
    have hm0 : Rx.make (.grp n t) m = if n = 0 then Rx.make t m else (Rx.put (Rx.make t (Rx.put m { Rx.kOf 3 with slot := 2 * n }).1) { Rx.kOf 3 with slot := 2 * n + 1 }).1 := by rw [Rx.make, if_neg hfn]
    rw [hm0]
    have hb := hbW w h.kt
    try (first | refine gl tb ?_ | refine gg tb ?_ | refine ll tb ?_ | refine lg tb ?_); repeat ((first | refine G.condT rfl ?_ | refine G.condF rfl ?_ | refine sFa tb ?_ | refine sLd tb ?_ | refine sLa tb ?_ | refine sLen tb ?_ | refine sFd tb ?_ | refine sBd tb ?_ | refine sBa tb ?_); try (first | refine gl tb ?_ | refine gg tb ?_ | refine ll tb ?_ | refine lg tb ?_))
    refine G.join (fun _ : Unit => [(0, none, ptr mb), (1, none, ptr b)]) (fun _ w' => MkS P Q w0 w' mb (if n = 0 then m else (Rx.put m { Rx.kOf 3 with slot := 2 * n }).1)) ?_ ?_
    rotate_left
    · try (first | refine gl tb ?_ | refine gg tb ?_ | refine ll tb ?_ | refine lg tb ?_); repeat ((first | refine G.condT rfl ?_ | refine G.condF rfl ?_ | refine sFa tb ?_ | refine sLd tb ?_ | refine sLa tb ?_ | refine sLen tb ?_ | refine sFd tb ?_ | refine sBd tb ?_ | refine sBa tb ?_); try (first | refine gl tb ?_ | refine gg tb ?_ | refine ll tb ?_ | refine lg tb ?_))
      first | refine G.condD rfl (fun hc => ?_) (fun hc => ?_) | refine G.condN rfl (fun hc => ?_) (fun hc => ?_) | refine G.cond rfl (fun hc => ?_) (fun hc => ?_)
      · try (first | refine gl tb ?_ | refine gg tb ?_ | refine ll tb ?_ | refine lg tb ?_); repeat ((first | refine G.condT rfl ?_ | refine G.condF rfl ?_ | refine sFa tb ?_ | refine sLd tb ?_ | refine sLa tb ?_ | refine sLen tb ?_ | refine sFd tb ?_ | refine sBd tb ?_ | refine sBa tb ?_); try (first | refine gl tb ?_ | refine gg tb ?_ | refine ll tb ?_ | refine lg tb ?_))
        refine sAd tb (r := ((2 * n : Nat) : Int)) ?_ (hp := by show IntKind.i64.wrap _ = _; rw [wrap_i64 (by omega) (by omega)]; omega)
        try (first | refine gl tb ?_ | refine gg tb ?_ | refine ll tb ?_ | refine lg tb ?_); repeat ((first | refine G.condT rfl ?_ | refine G.condF rfl ?_ | refine sFa tb ?_ | refine sLd tb ?_ | refine sLa tb ?_ | refine sLen tb ?_ | refine sFd tb ?_ | refine sBd tb ?_ | refine sBa tb ?_); try (first | refine gl tb ?_ | refine gg tb ?_ | refine ll tb ?_ | refine lg tb ?_))
        refine sCall c33 (put_ok w0 w mb m { Rx.kOf 3 with slot := 2 * n } (.pointer none) h (.inr ⟨by simp [Rx.kOf], rfl⟩)) ?_
        rintro _ W1 ⟨_, h1⟩
        try (first | refine gl tb ?_ | refine gg tb ?_ | refine ll tb ?_ | refine lg tb ?_); repeat ((first | refine G.condT rfl ?_ | refine G.condF rfl ?_ | refine sFa tb ?_ | refine sLd tb ?_ | refine sLa tb ?_ | refine sLen tb ?_ | refine sFd tb ?_ | refine sBd tb ?_ | refine sBa tb ?_); try (first | refine gl tb ?_ | refine gg tb ?_ | refine ll tb ?_ | refine lg tb ?_))
        exact G.met () (by repeat (first | exact Sub.nil _ | refine Sub.cons rfl ?_)) (by rw [if_neg (by omega)]; exact h1)
      · try (first | refine gl tb ?_ | refine gg tb ?_ | refine ll tb ?_ | refine lg tb ?_); repeat ((first | refine G.condT rfl ?_ | refine G.condF rfl ?_ | refine sFa tb ?_ | refine sLd tb ?_ | refine sLa tb ?_ | refine sLen tb ?_ | refine sFd tb ?_ | refine sBd tb ?_ | refine sBa tb ?_); try (first | refine gl tb ?_ | refine gg tb ?_ | refine ll tb ?_ | refine lg tb ?_))
        exact G.met () (by repeat (first | exact Sub.nil _ | refine Sub.cons rfl ?_)) (by rw [if_pos (by omega)]; exact h)
    rintro _ W1 h1
    clear hb
    have hb := hbW W1 h1.kt
    have hk := hkW W1 h1.kt
    try (first | refine gl tb ?_ | refine gg tb ?_ | refine ll tb ?_ | refine lg tb ?_); repeat ((first | refine G.condT rfl ?_ | refine G.condF rfl ?_ | refine sFa tb ?_ | refine sLd tb ?_ | refine sLa tb ?_ | refine sLen tb ?_ | refine sFd tb ?_ | refine sBd tb ?_ | refine sIa tb 0 ?_); try (first | refine gl tb ?_ | refine gg tb ?_ | refine ll tb ?_ | refine lg tb ?_))
    refine sCall c32 (ih t (by simp [kidsT]) P Q w0 W1 mb _ u h1 hTu) ?_
    rintro _ W2 h2
    clear hb hk
    have hb := hbW W2 h2.kt
    try (first | refine gl tb ?_ | refine gg tb ?_ | refine ll tb ?_ | refine lg tb ?_); repeat ((first | refine G.condT rfl ?_ | refine G.condF rfl ?_ | refine sFa tb ?_ | refine sLd tb ?_ | refine sLa tb ?_ | refine sLen tb ?_ | refine sFd tb ?_ | refine sBd tb ?_ | refine sBa tb ?_); try (first | refine gl tb ?_ | refine gg tb ?_ | refine ll tb ?_ | refine lg tb ?_))
    first | refine G.condD rfl (fun hc => ?_) (fun hc => ?_) | refine G.condN rfl (fun hc => ?_) (fun hc => ?_) | refine G.cond rfl (fun hc => ?_) (fun hc => ?_)
    · have hn0 : ¬ n = 0 := by omega
      rw [if_neg hn0] at h2 ⊢
      try (first | refine gl tb ?_ | refine gg tb ?_ | refine ll tb ?_ | refine lg tb ?_); repeat ((first | refine G.condT rfl ?_ | refine G.condF rfl ?_ | refine sFa tb ?_ | refine sLd tb ?_ | refine sLa tb ?_ | refine sLen tb ?_ | refine sFd tb ?_ | refine sBd tb ?_ | refine sBa tb ?_); try (first | refine gl tb ?_ | refine gg tb ?_ | refine ll tb ?_ | refine lg tb ?_))
      refine sAd tb (r := ((2 * n : Nat) : Int)) ?_ (hp := by show IntKind.i64.wrap _ = _; rw [wrap_i64 (by omega) (by omega)]; omega)
      try (first | refine gl tb ?_ | refine gg tb ?_ | refine ll tb ?_ | refine lg tb ?_); repeat ((first | refine G.condT rfl ?_ | refine G.condF rfl ?_ | refine sFa tb ?_ | refine sLd tb ?_ | refine sLa tb ?_ | refine sLen tb ?_ | refine sFd tb ?_ | refine sBd tb ?_ | refine sBa tb ?_); try (first | refine gl tb ?_ | refine gg tb ?_ | refine ll tb ?_ | refine lg tb ?_))
      refine sAd tb (r := ((2 * n + 1 : Nat) : Int)) ?_ (hp := by show IntKind.i64.wrap _ = _; rw [wrap_i64 (by omega) (by omega)]; omega)
      try (first | refine gl tb ?_ | refine gg tb ?_ | refine ll tb ?_ | refine lg tb ?_); repeat ((first | refine G.condT rfl ?_ | refine G.condF rfl ?_ | refine sFa tb ?_ | refine sLd tb ?_ | refine sLa tb ?_ | refine sLen tb ?_ | refine sFd tb ?_ | refine sBd tb ?_ | refine sBa tb ?_); try (first | refine gl tb ?_ | refine gg tb ?_ | refine ll tb ?_ | refine lg tb ?_))
      refine sCall c33 (put_ok w0 W2 mb _ { Rx.kOf 3 with slot := 2 * n + 1 } (.pointer none) h2 (.inr ⟨by simp [Rx.kOf], rfl⟩)) ?_
      rintro _ W3 ⟨_, h3⟩
      try (first | refine gl tb ?_ | refine gg tb ?_ | refine ll tb ?_ | refine lg tb ?_); repeat ((first | refine G.condT rfl ?_ | refine G.condF rfl ?_ | refine sFa tb ?_ | refine sLd tb ?_ | refine sLa tb ?_ | refine sLen tb ?_ | refine sFd tb ?_ | refine sBd tb ?_ | refine sBa tb ?_); try (first | refine gl tb ?_ | refine gg tb ?_ | refine ll tb ?_ | refine lg tb ?_))
      refine G.end0 rfl rfl rfl ?_
      exact h3
    · have hn0 : n = 0 := by omega
      rw [if_pos hn0] at h2 ⊢
      try (first | refine gl tb ?_ | refine gg tb ?_ | refine ll tb ?_ | refine lg tb ?_); repeat ((first | refine G.condT rfl ?_ | refine G.condF rfl ?_ | refine sFa tb ?_ | refine sLd tb ?_ | refine sLa tb ?_ | refine sLen tb ?_ | refine sFd tb ?_ | refine sBd tb ?_ | refine sBa tb ?_); try (first | refine gl tb ?_ | refine gg tb ?_ | refine ll tb ?_ | refine lg tb ?_))
      refine G.end0 rfl rfl rfl ?_
      exact h2
  | seq l =>
    have hbW : ∀ W, Kq Q w0 W → Bx W b [.int .i64 5, sp, .bool false, .int .i64 0, .int .i64 0, .int .i64 0, .bool false, .bool false, ks] := hbW
    have hm0 : Rx.make (.seq l) m = Rx.makeL l m := by rw [Rx.make, if_neg hfn]
    rw [hm0]
    have hb := hbW w h.kt
    have hk := hkW w h.kt
    have hlen : (us.map fun u => [u]).length = l.length := by rw [List.length_map]; exact hl
    try (first | refine gl tb ?_ | refine gg tb ?_ | refine ll tb ?_ | refine lg tb ?_); repeat ((first | refine G.condT rfl ?_ | refine G.condF rfl ?_ | refine sFa tb ?_ | refine sLd tb ?_ | refine sLa tb ?_ | refine sLen tb ?_ | refine sFd tb ?_ | refine sBd tb ?_ | refine sBa tb ?_); try (first | refine gl tb ?_ | refine gg tb ?_ | refine ll tb ?_ | refine lg tb ?_))
    rw [hlen]
    try (first | refine gl tb ?_ | refine gg tb ?_ | refine ll tb ?_ | refine lg tb ?_); repeat ((first | refine G.condT rfl ?_ | refine G.condF rfl ?_ | refine sFa tb ?_ | refine sLd tb ?_ | refine sLa tb ?_ | refine sLen tb ?_ | refine sFd tb ?_ | refine sBd tb ?_ | refine sBa tb ?_); try (first | refine gl tb ?_ | refine gg tb ?_ | refine ll tb ?_ | refine lg tb ?_))
    refine (G.loop (fun p : Nat × Rx.Mk => [(0, none, ptr mb), (74, none, ks), (75, none, .int .i64 l.length), (76, none, .int .i64 p.1)])
      (fun p W => MkS P Q w0 W mb p.2 ∧ p.1 ≤ l.length ∧ Rx.makeL (l.drop p.1) p.2 = Rx.makeL l m) (fun p => l.length - p.1) (0, m) (by repeat (first | exact Sub.nil _ | refine Sub.cons rfl ?_)) ⟨h, Nat.zero_le _, rfl⟩ ?_)
    clear hb hk
    rintro ⟨k, m1⟩ W1 ⟨h1, hkl, hL⟩
    simp only at h1 hkl hL ⊢
    have hk := hkW W1 h1.kt
    have hlb := hk.bound
    rw [hlen] at hlb
    try (first | refine gl tb ?_ | refine gg tb ?_ | refine ll tb ?_ | refine lg tb ?_); repeat ((first | refine G.condT rfl ?_ | refine G.condF rfl ?_ | refine sFa tb ?_ | refine sLd tb ?_ | refine sLa tb ?_ | refine sLen tb ?_ | refine sFd tb ?_ | refine sBd tb ?_ | refine sBa tb ?_); try (first | refine gl tb ?_ | refine gg tb ?_ | refine ll tb ?_ | refine lg tb ?_))
    first | refine G.condD rfl (fun hc => ?_) (fun hc => ?_) | refine G.condN rfl (fun hc => ?_) (fun hc => ?_) | refine G.cond rfl (fun hc => ?_) (fun hc => ?_)
    · have hlt : k < l.length := by omega
      obtain ⟨u, hu⟩ : ∃ u, us[k]? = some u := ⟨_, List.getElem?_eq_getElem (by rw [hl]; exact hlt)⟩
      have hget : (us.map fun u => [u])[k]? = some [u] := by rw [List.getElem?_map, hu]; rfl
      have hTu := hkids k l[k] u (List.getElem?_eq_getElem hlt) hu
      rw [List.drop_eq_getElem_cons hlt, Rx.makeL] at hL
      try (first | refine gl tb ?_ | refine gg tb ?_ | refine ll tb ?_ | refine lg tb ?_); repeat ((first | refine G.condT rfl ?_ | refine G.condF rfl ?_ | refine sFa tb ?_ | refine sLd tb ?_ | refine sLa tb ?_ | refine sLen tb ?_ | refine sFd tb ?_ | refine sBd tb ?_ | refine sIa tb k ?_); try (first | refine gl tb ?_ | refine gg tb ?_ | refine ll tb ?_ | refine lg tb ?_))
      refine sCall c32 (ih l[k] (List.getElem_mem hlt) P Q w0 W1 mb m1 u h1 hTu) ?_
      rintro _ W2 h2
      try (first | refine gl tb ?_ | refine gg tb ?_ | refine ll tb ?_ | refine lg tb ?_); repeat ((first | refine G.condT rfl ?_ | refine G.condF rfl ?_ | refine sFa tb ?_ | refine sLd tb ?_ | refine sLa tb ?_ | refine sLen tb ?_ | refine sFd tb ?_ | refine sBd tb ?_ | refine sBa tb ?_); try (first | refine gl tb ?_ | refine gg tb ?_ | refine ll tb ?_ | refine lg tb ?_))
      refine sAd tb (r := ((k + 1 : Nat) : Int)) ?_
      try (first | refine gl tb ?_ | refine gg tb ?_ | refine ll tb ?_ | refine lg tb ?_); repeat ((first | refine G.condT rfl ?_ | refine G.condF rfl ?_ | refine sFa tb ?_ | refine sLd tb ?_ | refine sLa tb ?_ | refine sLen tb ?_ | refine sFd tb ?_ | refine sBd tb ?_ | refine sBa tb ?_); try (first | refine gl tb ?_ | refine gg tb ?_ | refine ll tb ?_ | refine lg tb ?_))
      exact G.lp (x := (k, m1)) (k + 1, Rx.make l[k] m1) (by repeat (first | exact Sub.nil _ | refine Sub.cons rfl ?_)) ⟨h2, by simp only; omega, hL⟩ (by simp only; omega)
    · have hke : k = l.length := by omega
      subst hke
      rw [List.drop_length, Rx.makeL] at hL
      rw [← hL]
      try (first | refine gl tb ?_ | refine gg tb ?_ | refine ll tb ?_ | refine lg tb ?_); repeat ((first | refine G.condT rfl ?_ | refine G.condF rfl ?_ | refine sFa tb ?_ | refine sLd tb ?_ | refine sLa tb ?_ | refine sLen tb ?_ | refine sFd tb ?_ | refine sBd tb ?_ | refine sBa tb ?_); try (first | refine gl tb ?_ | refine gg tb ?_ | refine ll tb ?_ | refine lg tb ?_))
      refine G.end0 rfl rfl rfl ?_
      exact h1
  | alt ta tc =>
    have hbW : ∀ W, Kq Q w0 W → Bx W b [.int .i64 6, sp, .bool false, .int .i64 0, .int .i64 0, .int .i64 0, .bool false, .bool false, ks] := hbW
    have hl2 : us.length = 2 := hl
    obtain ⟨ua, hua⟩ : ∃ u, us[0]? = some u := ⟨_, List.getElem?_eq_getElem (by omega)⟩
    obtain ⟨uc, huc⟩ : ∃ u, us[1]? = some u := ⟨_, List.getElem?_eq_getElem (by omega)⟩
    have hTa : Tr w0 Q ta ua := hkids 0 ta ua rfl hua
    have hTc : Tr w0 Q tc uc := hkids 1 tc uc rfl huc
    have hg0 : (us.map fun u => [u])[0]? = some [ua] := by rw [List.getElem?_map, hua]; rfl
    have hg1 : (us.map fun u => [u])[1]? = some [uc] := by rw [List.getElem?_map, huc]; rfl
    rw [Rx.make, if_neg hfn]
    simp only
    have hb := hbW w h.kt
    try (first | refine gl tb ?_ | refine gg tb ?_ | refine ll tb ?_ | refine lg tb ?_); repeat ((first | refine G.condT rfl ?_ | refine G.condF rfl ?_ | refine sFa tb ?_ | refine sLd tb ?_ | refine sLa tb ?_ | refine sLen tb ?_ | refine sFd tb ?_ | refine sBd tb ?_ | refine sBa tb ?_); try (first | refine gl tb ?_ | refine gg tb ?_ | refine ll tb ?_ | refine lg tb ?_))
    refine sCall c33 (put_ok w0 w mb m (Rx.kOf 4) (.pointer none) h (kof _ _ _ (by decide))) ?_
    rintro _ W1 ⟨rfl, h1⟩
    clear hb hbx
    have hb := hbW W1 h1.kt
    have hk := hkW W1 h1.kt
    have hp1 := Rx.put_gr m (Rx.kOf 4)
    have hi1u := put_ix m (Rx.kOf 4)
    have hle0 := h.le
    have ha1 := @Rx.put_at m (Rx.kOf 4)
    generalize Rx.put m (Rx.kOf 4) = r1 at h1 hp1 ha1 hi1u ⊢
    obtain ⟨m1, i1⟩ := r1
    simp only at h1 hp1 ha1 hi1u ⊢
    try (first | refine gl tb ?_ | refine gg tb ?_ | refine ll tb ?_ | refine lg tb ?_); repeat ((first | refine G.condT rfl ?_ | refine G.condF rfl ?_ | refine sFa tb ?_ | refine sLd tb ?_ | refine sLa tb ?_ | refine sLen tb ?_ | refine sFd tb ?_ | refine sBd tb ?_ | refine sIa tb 0 ?_); try (first | refine gl tb ?_ | refine gg tb ?_ | refine ll tb ?_ | refine lg tb ?_))
    refine sCall c32 (ih ta (by simp [kidsT]) P Q w0 W1 mb m1 ua h1 hTa) ?_
    rintro _ W2 h2
    clear hb hk
    have hp2 := Rx.make_gr ta m1
    generalize Rx.make ta m1 = m2 at h2 hp2 ⊢
    try (first | refine gl tb ?_ | refine gg tb ?_ | refine ll tb ?_ | refine lg tb ?_); repeat ((first | refine G.condT rfl ?_ | refine G.condF rfl ?_ | refine sFa tb ?_ | refine sLd tb ?_ | refine sLa tb ?_ | refine sLen tb ?_ | refine sFd tb ?_ | refine sBd tb ?_ | refine sBa tb ?_); try (first | refine gl tb ?_ | refine gg tb ?_ | refine ll tb ?_ | refine lg tb ?_))
    refine sCall c33 (put_ok w0 W2 mb m2 (Rx.kOf 5) (.pointer none) h2 (kof _ _ _ (by decide))) ?_
    rintro _ W3 ⟨rfl, h3⟩
    have hp3 := Rx.put_gr m2 (Rx.kOf 5)
    have hi3u := put_ix m2 (Rx.kOf 5)
    have hle2 := h2.le
    have ha3 := @Rx.put_at m2 (Rx.kOf 5)
    generalize Rx.put m2 (Rx.kOf 5) = r3 at h3 hp3 ha3 hi3u ⊢
    obtain ⟨m3, i3⟩ := r3
    simp only at h3 hp3 ha3 hi3u ⊢
    have hi1 : m3.full = false → i1 < m3.st.length := fun hf3 => by
      have h2f := hp3.ok hf3
      have h1f := hp2.ok h2f
      have := ha1 h1f
      have := hp2.1
      have := hp3.1
      omega
    obtain ⟨v3, ps3, hbx3, hst3⟩ := h3.ex
    have hvs3 := hst3.ow.sli
    have hzl3 := hst3.zl
    have hle3 := h3.le
    try (first | refine gl tb ?_ | refine gg tb ?_ | refine ll tb ?_ | refine lg tb ?_); repeat ((first | refine G.condT rfl ?_ | refine G.condF rfl ?_ | refine sFa tb ?_ | refine sLd tb ?_ | refine sLa tb ?_ | refine sLen tb ?_ | refine sFd tb ?_ | refine sBd tb ?_ | refine sBa tb ?_); try (first | refine gl tb ?_ | refine gg tb ?_ | refine ll tb ?_ | refine lg tb ?_))
    refine sAd tb (r := ((i1 + 1 : Nat) : Int)) ?_ (hp := by rw [wrap_i64 (by omega) (by omega)]; omega)
    try (first | refine gl tb ?_ | refine gg tb ?_ | refine ll tb ?_ | refine lg tb ?_); repeat ((first | refine G.condT rfl ?_ | refine G.condF rfl ?_ | refine sFa tb ?_ | refine sLd tb ?_ | refine sLa tb ?_ | refine sLen tb ?_ | refine sFd tb ?_ | refine sBd tb ?_ | refine sBa tb ?_); try (first | refine gl tb ?_ | refine gg tb ?_ | refine ll tb ?_ | refine lg tb ?_))
    rw [hzl3]
    try (first | refine gl tb ?_ | refine gg tb ?_ | refine ll tb ?_ | refine lg tb ?_); repeat ((first | refine G.condT rfl ?_ | refine G.condF rfl ?_ | refine sFa tb ?_ | refine sLd tb ?_ | refine sLa tb ?_ | refine sLen tb ?_ | refine sFd tb ?_ | refine sBd tb ?_ | refine sBa tb ?_); try (first | refine gl tb ?_ | refine gg tb ?_ | refine ll tb ?_ | refine lg tb ?_))
    refine sCall c51 (fork_ok w0 W3 mb m3 i1 (i1 + 1) m3.st.length false h3 hi1) ?_
    rintro _ W4 h4
    have hf4 := Rx.fork_full m3 i1 (i1 + 1) m3.st.length false
    have hl4 := Rx.fork_len m3 i1 (i1 + 1) m3.st.length false
    generalize Rx.fork m3 i1 (i1 + 1) m3.st.length false = m4 at h4 hf4 hl4 ⊢
    have hb := hbW W4 h4.kt
    have hk := hkW W4 h4.kt
    try (first | refine gl tb ?_ | refine gg tb ?_ | refine ll tb ?_ | refine lg tb ?_); repeat ((first | refine G.condT rfl ?_ | refine G.condF rfl ?_ | refine sFa tb ?_ | refine sLd tb ?_ | refine sLa tb ?_ | refine sLen tb ?_ | refine sFd tb ?_ | refine sBd tb ?_ | refine sIa tb 1 ?_); try (first | refine gl tb ?_ | refine gg tb ?_ | refine ll tb ?_ | refine lg tb ?_))
    refine sCall c32 (ih tc (by simp [kidsT]) P Q w0 W4 mb m4 uc h4 hTc) ?_
    rintro _ W5 h5
    have hp5 := Rx.make_gr tc m4
    generalize Rx.make tc m4 = m5 at h5 hp5 ⊢
    obtain ⟨v5, ps5, hbx5, hst5⟩ := h5.ex
    have hvs5 := hst5.ow.sli
    have hzl5 := hst5.zl
    have hle5 := h5.le
    clear hb hk hbx3
    try (first | refine gl tb ?_ | refine gg tb ?_ | refine ll tb ?_ | refine lg tb ?_); repeat ((first | refine G.condT rfl ?_ | refine G.condF rfl ?_ | refine sFa tb ?_ | refine sLd tb ?_ | refine sLa tb ?_ | refine sLen tb ?_ | refine sFd tb ?_ | refine sBd tb ?_ | refine sBa tb ?_); try (first | refine gl tb ?_ | refine gg tb ?_ | refine ll tb ?_ | refine lg tb ?_))
    first | refine G.condD rfl (fun hc => ?_) (fun hc => ?_) | refine G.condN rfl (fun hc => ?_) (fun hc => ?_) | refine G.cond rfl (fun hc => ?_) (fun hc => ?_)
    · have hf5 : m5.full = false := by simpa using hc
      have hi3 : i3 < m5.st.length := by
        have h4f := hp5.ok hf5
        have := ha3 (by rw [← hf4]; exact h4f)
        have := hp5.1
        omega
      obtain ⟨kk, hkk⟩ : ∃ k, m5.st[i3]? = some k := ⟨_, List.getElem?_eq_getElem hi3⟩
      obtain ⟨p, hp⟩ : ∃ p, ps5[i3]? = some p := ⟨_, List.getElem?_eq_getElem (by rw [hst5.len]; exact hi3)⟩
      have hxd := Ext.drew W5
      have hod := hst5.ow.to hxd
      have hbd := hbx5.to hxd
      have hne : some mb ≠ v5.ownBlock := fun e => by have := (hst5.ow.lt mb e.symm).1; omega
      have hget : (List.zipWith stC m5.st ps5)[i3]? = some (stC kk p) := by rw [List.getElem?_zipWith, hkk, hp]
      try (first | refine gl tb ?_ | refine gg tb ?_ | refine ll tb ?_ | refine lg tb ?_); repeat ((first | refine G.condT rfl ?_ | refine G.condF rfl ?_ | refine sFa tb ?_ | refine sLd tb ?_ | refine sLa tb ?_ | refine sLen tb ?_ | refine sFd tb ?_ | refine sBd tb ?_ | refine sBa tb ?_); try (first | refine gl tb ?_ | refine gg tb ?_ | refine ll tb ?_ | refine lg tb ?_))
      refine G.regionM [(0, true), (1, true), (2, true), (3, true), (4, true), (5, true), (6, true), (7, true), (8, true), (9, true), (10, true), (11, true), (12, false)] (fun w' => Bx w' mb [v5, .bool m5.full]) (by kernel_rfl) (by kernel_rfl) rfl mixed (hbd) rfl ?_
      try (refine mm tb ?_); repeat ((first | refine dFa tb ?_ | refine dLd tb ?_ | refine dLa tb ?_ | refine dLen tb ?_ | refine dFd tb ?_); try (refine mm tb ?_))
      refine dLd tb (u := v5) ?_ (hc := fun w' hS _ => Bx.c0 hS (by exact rfl))
      try (refine mm tb ?_); repeat ((first | refine dFa tb ?_ | refine dLd tb ?_ | refine dLa tb ?_ | refine dLen tb ?_ | refine dFd tb ?_); try (refine mm tb ?_))
      refine dLd tb (u := v5) ?_ (hc := fun w' hS _ => Bx.c0 hS (by exact rfl))
      try (refine mm tb ?_); repeat ((first | refine dFa tb ?_ | refine dLd tb ?_ | refine dLa tb ?_ | refine dLen tb ?_ | refine dFd tb ?_); try (refine mm tb ?_))
      refine dIa tb i3 ?_ (hj := fun _ => ⟨rfl, by rw [hzl5]; exact hi3⟩)
      try (refine mm tb ?_); repeat ((first | refine dFa tb ?_ | refine dLd tb ?_ | refine dLa tb ?_ | refine dLen tb ?_ | refine dFd tb ?_); try (refine mm tb ?_))
      refine GM.eff (Step.storeRowF tb (j := i3) (off := 3) rfl (Op1.of rfl (by first | exact fun _ => rfl | exact fun h => h | exact fun h => bL h | exact fun h => bL (bL h) | exact fun h => bL (bL (bL h)))) (Op1.of rfl (by first | exact fun _ => rfl | exact fun h => h | exact fun h => bL h | exact fun h => bL (bL h) | exact fun h => bL (bL (bL h)))) rfl rfl rfl hod (by rw [hzl5]; exact hi3) (by decide) ?_)
      intro W6 ho6 hg6
      have hb6 := hbd.grew hg6 hne
      refine ⟨hb6, ?_⟩
      have e1 : ((List.zipWith stC m5.st ps5).getD i3 []).set 3 (.int .i64 (List.zipWith stC m5.st ps5).length) = stC { kk with a := m5.st.length } p := by rw [stC_getD hkk hp, hzl5]; rfl
      rw [e1, zip_set hp] at ho6
      refine GM.nil ?_
      have hm6 : Rx.jumpTo m5 i3 = ⟨m5.st.set i3 { kk with a := m5.st.length }, m5.full⟩ := by
        unfold Rx.jumpTo Rx.setA
        rw [hf5, hkk]; rfl
      rw [hm6]
      refine G.end0 rfl rfl rfl ?_
      refine ⟨?_, h5.pl, h5.sub, h5.np, ⟨v5, ps5, hb6, ho6, by rw [List.length_set]; exact hst5.len, fun j k' p' g1 g2 => ?_, hst5.np⟩, by simp only [List.length_set]; exact hle5⟩
      · exact (h5.kq.trans hxd.kq).trans (hg6.kq hst5.np)
      · by_cases hj : i3 = j
        · subst hj
          rw [List.getElem?_set] at g1
          simp only [if_true, hi3, Option.some.injEq] at g1
          subst g1
          exact hst5.tr i3 kk p' hkk g2
        · rw [List.getElem?_set_ne hj] at g1
          exact hst5.tr j k' p' g1 g2
    · have hf5 : m5.full = true := by simpa using hc
      have hm6 : Rx.jumpTo m5 i3 = m5 := by unfold Rx.jumpTo; rw [if_pos hf5]
      rw [hm6]
      try (first | refine gl tb ?_ | refine gg tb ?_ | refine ll tb ?_ | refine lg tb ?_); repeat ((first | refine G.condT rfl ?_ | refine G.condF rfl ?_ | refine sFa tb ?_ | refine sLd tb ?_ | refine sLa tb ?_ | refine sLen tb ?_ | refine sFd tb ?_ | refine sBd tb ?_ | refine sBa tb ?_); try (first | refine gl tb ?_ | refine gg tb ?_ | refine ll tb ?_ | refine lg tb ?_))
      refine G.end0 rfl rfl rfl ?_
      exact h5
  | rep mn mx few plus t' =>
    have hbW : ∀ W, Kq Q w0 W → Bx W b [.int .i64 7, sp, .bool false, .int .i64 0, .int .i64 mn, .int .i64 mx, .bool few, .bool plus, ks] := hbW
    rw [Rx.make, if_neg hfn]
    have hb := hbW w h.kt
    try (first | refine gl tb ?_ | refine gg tb ?_ | refine ll tb ?_ | refine lg tb ?_); repeat ((first | refine G.condT rfl ?_ | refine G.condF rfl ?_ | refine sFa tb ?_ | refine sLd tb ?_ | refine sLa tb ?_ | refine sLen tb ?_ | refine sFd tb ?_ | refine sBd tb ?_ | refine sBa tb ?_); try (first | refine gl tb ?_ | refine gg tb ?_ | refine ll tb ?_ | refine lg tb ?_))
    refine sCall c52 (hrep mn mx few plus t' rfl P Q w0 w mb m (ptr b) h hT) ?_
    rintro _ W1 h1
    try (first | refine gl tb ?_ | refine gg tb ?_ | refine ll tb ?_ | refine lg tb ?_); repeat ((first | refine G.condT rfl ?_ | refine G.condF rfl ?_ | refine sFa tb ?_ | refine sLd tb ?_ | refine sLa tb ?_ | refine sLen tb ?_ | refine sFd tb ?_ | refine sBd tb ?_ | refine sBa tb ?_); try (first | refine gl tb ?_ | refine gg tb ?_ | refine ll tb ?_ | refine lg tb ?_))
    refine G.end0 rfl rfl rfl ?_
    exact h1
end Go.Proofs.YtmkckngecjpklaaDoor
end
