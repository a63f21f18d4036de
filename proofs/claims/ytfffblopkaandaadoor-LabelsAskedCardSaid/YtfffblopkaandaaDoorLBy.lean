/- LabelsBytes: what bytes say; walked. -/
import Derived.Test.YtfffblopkaandaaDoorLRd
import Derived.Test.YtfffblopkaandaaDoorLZ
import Derived.Test.YtfffblopkaandaaDoorLNw
import Derived.Test.YtfffblopkaandaaDoorGV2
open Go Go.Vg Go.RowKit Go.Proofs Go.Proofs.YtfffblopkaandaaDoor
namespace Go.Proofs.YtfffblopkaandaaDoor
set_option linter.unusedSimpArgs false

/-! ### plain: bytes read back -/
theorem byI_nat {n : Nat} (h : n < 256) : (byI n).toNat = n := by
  have := byI_int (n : Int)
  omega
theorem readT_enc (s r : List UInt8) (h : s.length < 65536) : readT (encT s ++ r) = some (s, r) := by
  have h1 : (byI ((s.length : Int) / 2 ^ 8)).toNat = s.length / 256 := by
    have e : ((s.length : Int) / 2 ^ 8) = ((s.length / 256 : Nat) : Int) := by
      rw [show (2 : Int) ^ 8 = 256 from rfl]; omega
    rw [e, byI_nat (by omega)]
  have h2 : (byI (s.length : Int)).toNat = s.length % 256 := by
    have := byI_int (s.length : Int)
    omega
  have h3 : (byI ((s.length : Int) / 2 ^ 8)).toNat * 256 + (byI (s.length : Int)).toNat = s.length := by rw [h1, h2]; omega
  show readT (byI ((s.length : Int) / 2 ^ 8) :: byI (s.length : Int) :: (s ++ r)) = _
  simp only [readT, h3]
  rw [if_pos (by simp), List.take_left, List.drop_left]
theorem readN_enc (ls : List Lab) (r : List UInt8) (h : ∀ x ∈ ls, x.1.length < 65536 ∧ x.2.length < 65536) : readN ls.length (ls.flatMap encX ++ r) = some (ls, r) := by
  induction ls with
  | nil => rfl
  | cons x t ih =>
    have hx := h x (by simp)
    have h2 : readT (encT x.2 ++ (t.flatMap encX ++ r)) = some (x.2, t.flatMap encX ++ r) := readT_enc x.2 _ hx.2
    have h1 : readT (encT x.1 ++ (encT x.2 ++ (t.flatMap encX ++ r))) = some (x.1, encT x.2 ++ (t.flatMap encX ++ r)) := readT_enc x.1 _ hx.1
    have e : (x :: t).flatMap encX ++ r = encT x.1 ++ (encT x.2 ++ (t.flatMap encX ++ r)) := by simp [encX, List.append_assoc]
    rw [e, List.length_cons]
    simp only [readN, h1, h2, ih (fun y hy => h y (by simp [hy]))]
theorem readL_enc (ls : List Lab) (hr : rightB ls = true) (h : ∀ x ∈ ls, x.1.length < 65536 ∧ x.2.length < 65536) (hn : ls.length < 256) : readL (encL ls) = some ls := by
  have h1 := readN_enc ls [] h
  rw [List.append_nil] at h1
  simp only [encL, readL, byI_nat hn, h1, hr]
  rfl
theorem enc_inj {a b : List Lab} (ha : rightB a = true) (hb : rightB b = true) (za : ∀ x ∈ a, x.1.length < 65536 ∧ x.2.length < 65536) (zb : ∀ x ∈ b, x.1.length < 65536 ∧ x.2.length < 65536) (na : a.length < 256) (nb : b.length < 256) :
    decide (encL a = encL b) = eqN a b := by
  unfold eqN
  by_cases h : a = b
  · subst h; simp
  · have : encL a ≠ encL b := fun e => by
      have h1 := readL_enc a ha za na
      rw [e, readL_enc b hb zb nb] at h1
      exact h (Option.some.inj h1).symm
    simp [h, this]
/-- what a set's labels are like -/
theorem right_fair {ls : List Lab} (h : rightB ls = true) : (∀ x ∈ ls, fairB x = true ∧ x.2 ≠ []) ∧ ls.length ≤ 64 := by
  simp only [rightB, Bool.and_eq_true, decide_eq_true_eq] at h
  refine ⟨fun x hx => ?_, by omega⟩
  obtain ⟨i, hi, rfl⟩ := List.getElem_of_mem hx
  have := h.1 i hi
  unfold okAt at this
  rw [labAt_eq hi] at this
  simp only [Bool.not_eq_true', Bool.or_eq_false_iff, Bool.not_eq_false', decide_eq_false_iff_not] at this
  exact ⟨this.1.1, this.1.2⟩
theorem fair_len {x : Lab} (h : fairB x = true) : x.1.length ≤ 1024 ∧ x.2.length ≤ 1024 := by
  unfold fairB rightV namedB at h
  simp only [Bool.and_eq_true, decide_eq_true_eq] at h
  omega
theorem setN_right (ls : List Lab) : rightB (setN ls) = true := by
  unfold setN
  suffices h : ∀ (l : List Lab) (s : List Lab), rightB s = true → rightB (l.foldl setStep s) = true from h _ [] (by decide)
  intro l
  induction l with
  | nil => intro s h; exact h
  | cons a r ih =>
    intro s h
    refine ih _ ?_
    unfold setStep
    split
    · rename_i h0
      exact newR_right (ls := s ++ [a]) (Prod.ext h0 rfl)
    · exact h
theorem right_small {ls : List Lab} (h : rightB ls = true) : SmallL ls ∧ (∀ x ∈ ls, x.1.length < 65536 ∧ x.2.length < 65536) ∧ ls.length < 256 ∧ ∀ x ∈ ls, LabSz x := by
  have h1 := right_fair h
  have hl : ∀ x ∈ ls, x.1.length ≤ 1024 ∧ x.2.length ≤ 1024 := fun x hx => fair_len (h1.1 x hx).1
  refine ⟨⟨by omega, fun x hx => ?_⟩, fun x hx => ?_, by omega, fun x hx => ?_⟩
  · have := hl x hx; omega
  · have := hl x hx; omega
  · have := hl x hx; exact ⟨show x.1.length ≤ _ by omega, show x.2.length ≤ _ by omega⟩

/-! ### bytes spoilt -/
def u8C (n : Int) : List Value := [.int .u8 n]
theorem spoilBytes_ok (v : Value) (xs : List UInt8) (B : Nat) (w : World) (ho : BO w B v xs) (hl : xs.length ≤ 100000000000) (hB : B ≤ w.heap.size) :
    Ret Tryd.prog 40 ⟨[v]⟩ w fun _ w' => Grew B v w w' := by
  refine ret_of_G Tryd.func40 rfl Tryd.ntmps40 rfl ?_
  simp only [argEnv]
  try (first | refine gl tb ?_ | refine gg tb ?_ | refine ll tb ?_ | refine lg tb ?_); repeat ((first | refine G.condT rfl ?_ | refine G.condF rfl ?_ | refine sFa tb ?_ | refine sLd tb ?_ | refine sLa tb ?_ | refine sLen tb ?_ | refine sFd tb ?_ | refine sBd tb ?_ | refine sBa tb ?_); try (first | refine gl tb ?_ | refine gg tb ?_ | refine ll tb ?_ | refine lg tb ?_))
  refine (G.loop (fun k : Nat => [(0, none, v), (2, none, .int .i64 k)]) (fun k W => Grew B v w W ∧ k ≤ xs.length ∧ ∃ ns : List Int, Owns W B v 5 1 (ns.map u8C) ∧ ns.length = xs.length) (fun k => xs.length - k) 0 (by repeat (first | exact Sub.nil _ | refine Sub.cons rfl ?_)) ⟨Grew.refl _ _ _, by omega, xs.map fun c : UInt8 => (c.toNat : Int), ?_, by simp⟩ ?_)
  · rw [List.map_map]; exact ho
  · rintro k W ⟨hg, hk, ns, hn, hnl⟩
    have hnl2 : (ns.map u8C).length = xs.length := by rw [List.length_map, hnl]
    try (first | refine gl tb ?_ | refine gg tb ?_ | refine ll tb ?_ | refine lg tb ?_); repeat ((first | refine G.condT rfl ?_ | refine G.condF rfl ?_ | refine sFa tb ?_ | refine sLd tb ?_ | refine sLa tb ?_ | refine sLen tb ?_ | refine sFd tb ?_ | refine sBd tb ?_ | refine sBa tb ?_); try (first | refine gl tb ?_ | refine gg tb ?_ | refine ll tb ?_ | refine lg tb ?_))
    rw [hnl2]
    try (first | refine gl tb ?_ | refine gg tb ?_ | refine ll tb ?_ | refine lg tb ?_); repeat ((first | refine G.condT rfl ?_ | refine G.condF rfl ?_ | refine sFa tb ?_ | refine sLd tb ?_ | refine sLa tb ?_ | refine sLen tb ?_ | refine sFd tb ?_ | refine sBd tb ?_ | refine sBa tb ?_); try (first | refine gl tb ?_ | refine gg tb ?_ | refine ll tb ?_ | refine lg tb ?_))
    first | refine G.condD rfl (fun hc => ?_) (fun hc => ?_) | refine G.condN rfl (fun hc => ?_) (fun hc => ?_) | refine G.cond rfl (fun hc => ?_) (fun hc => ?_)
    · have hlt : k < ns.length := by omega
      obtain ⟨m, hm⟩ : ∃ m, ns[k]? = some m := ⟨ns[k], by simp [hlt]⟩
      have hget : (ns.map u8C)[k]? = some (u8C m) := by simp [hm]
      try (first | refine gl tb ?_ | refine gg tb ?_ | refine ll tb ?_ | refine lg tb ?_); repeat ((first | refine G.condT rfl ?_ | refine G.condF rfl ?_ | refine sFa tb ?_ | refine sLd tb ?_ | refine sLa tb ?_ | refine sLen tb ?_ | refine sFd tb ?_ | refine sBd tb ?_ | refine sBa tb ?_); try (first | refine gl tb ?_ | refine gg tb ?_ | refine ll tb ?_ | refine lg tb ?_))
      refine sIa tb k ?_ (hj := fun _ => ⟨rfl, by omega⟩)
      try (first | refine gl tb ?_ | refine gg tb ?_ | refine ll tb ?_ | refine lg tb ?_); repeat ((first | refine G.condT rfl ?_ | refine G.condF rfl ?_ | refine sFa tb ?_ | refine sLd tb ?_ | refine sLa tb ?_ | refine sLen tb ?_ | refine sFd tb ?_ | refine sBd tb ?_ | refine sBa tb ?_); try (first | refine gl tb ?_ | refine gg tb ?_ | refine ll tb ?_ | refine lg tb ?_))
      refine sIa tb k ?_ (hj := fun _ => ⟨rfl, by omega⟩)
      refine sStR tb (j := k) hn (by omega) ?_ (vs := u8C (bits .xor .u8 m 255)) (h1 := by simp [u8C, Value.oneCell'])
      intro W1 hn1 hg1
      have e : (ns.map u8C).set k (u8C (bits .xor .u8 m 255)) = (ns.set k (bits .xor .u8 m 255)).map u8C := by rw [List.map_set]
      rw [e] at hn1
      try (first | refine gl tb ?_ | refine gg tb ?_ | refine ll tb ?_ | refine lg tb ?_); repeat ((first | refine G.condT rfl ?_ | refine G.condF rfl ?_ | refine sFa tb ?_ | refine sLd tb ?_ | refine sLa tb ?_ | refine sLen tb ?_ | refine sFd tb ?_ | refine sBd tb ?_ | refine sBa tb ?_); try (first | refine gl tb ?_ | refine gg tb ?_ | refine ll tb ?_ | refine lg tb ?_))
      refine sAd tb ?_
      try (first | refine gl tb ?_ | refine gg tb ?_ | refine ll tb ?_ | refine lg tb ?_); repeat ((first | refine G.condT rfl ?_ | refine G.condF rfl ?_ | refine sFa tb ?_ | refine sLd tb ?_ | refine sLa tb ?_ | refine sLen tb ?_ | refine sFd tb ?_ | refine sBd tb ?_ | refine sBa tb ?_); try (first | refine gl tb ?_ | refine gg tb ?_ | refine ll tb ?_ | refine lg tb ?_))
      exact G.lp (k + 1) (by repeat (first | exact Sub.nil _ | refine Sub.cons rfl ?_)) ⟨hg.trans hg1, by omega, _, hn1, by rw [List.length_set]; exact hnl⟩ (by omega)
    · try (first | refine gl tb ?_ | refine gg tb ?_ | refine ll tb ?_ | refine lg tb ?_); repeat ((first | refine G.condT rfl ?_ | refine G.condF rfl ?_ | refine sFa tb ?_ | refine sLd tb ?_ | refine sLa tb ?_ | refine sLen tb ?_ | refine sFd tb ?_ | refine sBd tb ?_ | refine sBa tb ?_); try (first | refine gl tb ?_ | refine gg tb ?_ | refine ll tb ?_ | refine lg tb ?_))
      refine (G.loop (fun x : Nat × Value => [(0, none, x.2), (3, none, .int .i64 x.1)]) (fun x W => Grew B v w W ∧ x.1 ≤ 40 ∧ (∀ W2, Grew B x.2 W W2 → Grew B v w W2) ∧ ∃ ys, Owns W B x.2 5 1 ys ∧ ys.length = xs.length + x.1) (fun x => 40 - x.1) (0, v) (by repeat (first | exact Sub.nil _ | refine Sub.cons rfl ?_))
        ⟨hg, by simp, fun W2 h => hg.trans h, _, hn, by simpa using hnl⟩ ?_)
      clear hg hn hnl hnl2
      rintro ⟨j, s⟩ W ⟨hg, hj, hgo, ys, hy, hyl⟩
      simp only at hj hgo hy hyl ⊢
      have hgz := hg.size
      try (first | refine gl tb ?_ | refine gg tb ?_ | refine ll tb ?_ | refine lg tb ?_); repeat ((first | refine G.condT rfl ?_ | refine G.condF rfl ?_ | refine sFa tb ?_ | refine sLd tb ?_ | refine sLa tb ?_ | refine sLen tb ?_ | refine sFd tb ?_ | refine sBd tb ?_ | refine sBa tb ?_); try (first | refine gl tb ?_ | refine gg tb ?_ | refine ll tb ?_ | refine lg tb ?_))
      first | refine G.condD rfl (fun hc => ?_) (fun hc => ?_) | refine G.condN rfl (fun hc => ?_) (fun hc => ?_) | refine G.cond rfl (fun hc => ?_) (fun hc => ?_)
      · try (first | refine gl tb ?_ | refine gg tb ?_ | refine ll tb ?_ | refine lg tb ?_); repeat ((first | refine G.condT rfl ?_ | refine G.condF rfl ?_ | refine sFa tb ?_ | refine sLd tb ?_ | refine sLa tb ?_ | refine sLen tb ?_ | refine sFd tb ?_ | refine sBd tb ?_ | refine sBa tb ?_); try (first | refine gl tb ?_ | refine gg tb ?_ | refine ll tb ?_ | refine lg tb ?_))
        refine sBs' tb [[.int .u8 85]] ?_
        intro v1 W1 ho1 hs1 hx1
        refine sApp2 tb (hy.to hx1) ho1.sli ?_
        intro v2 W2 hy2 hg2 how
        have hg12 := (Grew.ofExt (u := s) hx1 (by omega)).trans hg2
        try (first | refine gl tb ?_ | refine gg tb ?_ | refine ll tb ?_ | refine lg tb ?_); repeat ((first | refine G.condT rfl ?_ | refine G.condF rfl ?_ | refine sFa tb ?_ | refine sLd tb ?_ | refine sLa tb ?_ | refine sLen tb ?_ | refine sFd tb ?_ | refine sBd tb ?_ | refine sBa tb ?_); try (first | refine gl tb ?_ | refine gg tb ?_ | refine ll tb ?_ | refine lg tb ?_))
        refine sAd tb ?_
        try (first | refine gl tb ?_ | refine gg tb ?_ | refine ll tb ?_ | refine lg tb ?_); repeat ((first | refine G.condT rfl ?_ | refine G.condF rfl ?_ | refine sFa tb ?_ | refine sLd tb ?_ | refine sLa tb ?_ | refine sLen tb ?_ | refine sFd tb ?_ | refine sBd tb ?_ | refine sBa tb ?_); try (first | refine gl tb ?_ | refine gg tb ?_ | refine ll tb ?_ | refine lg tb ?_))
        have hwz : Own2 W s v2 ∨ True := .inr trivial
        refine G.lp (x := (j, s)) (j + 1, v2) (by repeat (first | exact Sub.nil _ | refine Sub.cons rfl ?_)) ⟨hgo _ hg12, by simp only; omega, fun W3 h3 => ?_, _, hy2, by simp only [List.length_append, List.length_cons, List.length_nil]; omega⟩ (by simp only; omega)
        refine hgo _ ((Grew.ofExt (u := s) hx1 (by omega)).trans ?_)
        exact hg2.trans2 how h3
      · try (first | refine gl tb ?_ | refine gg tb ?_ | refine ll tb ?_ | refine lg tb ?_); repeat ((first | refine G.condT rfl ?_ | refine G.condF rfl ?_ | refine sFa tb ?_ | refine sLd tb ?_ | refine sLa tb ?_ | refine sLen tb ?_ | refine sFd tb ?_ | refine sBd tb ?_ | refine sBa tb ?_); try (first | refine gl tb ?_ | refine gg tb ?_ | refine ll tb ?_ | refine lg tb ?_))
        exact G.end0 rfl rfl rfl hg

end Go.Proofs.YtfffblopkaandaaDoor
