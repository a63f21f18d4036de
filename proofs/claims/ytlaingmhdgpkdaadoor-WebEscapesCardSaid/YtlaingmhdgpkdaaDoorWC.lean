/- The reference's Decode, walked. -/
import Derived.Test.YtlaingmhdgpkdaaDoorWB
open Go Go.Vg Go.RowKit Go.Proofs Go.Proofs.YtlaingmhdgpkdaaDoor
namespace Go.Proofs.YtlaingmhdgpkdaaDoor
set_option linter.unusedSimpArgs false

abbrev BO (w : World) (B : Nat) (v : Value) (xs : List UInt8) : Prop := Owns w B v 5 1 (bysC xs)
theorem refDecode_ok (s : List UInt8) (plus : Bool) (w : World) (hs : s.length ≤ 100000000) :
    Ret Tryd.prog 13 ⟨[S s, .bool plus]⟩ w fun r w' => r = (match decP plus s with
      | some o => .tuple ⟨[S o, .int .i64 0]⟩
      | none => .tuple ⟨[S [], .int .i64 8]⟩) ∧ Ext w w' := by
  refine ret_of_G Tryd.func13 rfl Tryd.ntmps13 rfl ?_
  simp only [argEnv]
  try (first | refine gl tb ?_ | refine gg tb ?_ | refine ll tb ?_ | refine lg tb ?_); repeat ((first | refine G.condT rfl ?_ | refine G.condF rfl ?_ | refine sFa tb ?_ | refine sLd tb ?_ | refine sLa tb ?_ | refine sLen tb ?_ | refine sFd tb ?_ | refine sBd tb ?_ | refine sBa tb ?_); try (first | refine gl tb ?_ | refine gg tb ?_ | refine ll tb ?_ | refine lg tb ?_))
  refine (G.loop (fun x : Nat × Value => [(0, none, S s), (1, none, .bool plus), (6, none, x.2), (7, none, .int .i64 x.1)]) (fun x W => Ext w W ∧ x.1 ≤ s.length ∧ ∃ acc, BO W w.heap.size x.2 acc ∧ acc.length ≤ x.1 ∧ decAt plus s x.1 acc) (fun x => s.length - x.1) (0, .slice none 0 0) (by repeat (first | exact Sub.nil _ | refine Sub.cons rfl ?_)) ⟨Ext.refl _, by simp, [], Owns.nil _ _ _ _, by simp, by unfold decAt; simp⟩ ?_)
  rintro ⟨k, v⟩ W ⟨hx, hk, acc, hb, hal, hd⟩
  simp only at hk hb hal hd ⊢
  have fin : ∀ (j : Nat) (c' : UInt8) (W1 : World) (v' : Value), Ext w W1 → BO W1 w.heap.size v' (acc ++ [c']) → k ≤ j → j < s.length → decP plus (s.drop k) = (decP plus (s.drop (j + 1))).map (c' :: ·) →
      (Ext w W1 ∧ j + 1 ≤ s.length ∧ ∃ acc, BO W1 w.heap.size v' acc ∧ acc.length ≤ j + 1 ∧ decAt plus s (j + 1) acc) := by
    intro j c' W1 v' h1 h2 h3 h4 h5
    exact ⟨h1, h4, _, h2, by rw [List.length_append, List.length_cons, List.length_nil]; omega, decAt_step hd h5⟩
  try (first | refine gl tb ?_ | refine gg tb ?_ | refine ll tb ?_ | refine lg tb ?_); repeat ((first | refine G.condT rfl ?_ | refine G.condF rfl ?_ | refine sFa tb ?_ | refine sLd tb ?_ | refine sLa tb ?_ | refine sLen tb ?_ | refine sFd tb ?_ | refine sBd tb ?_ | refine sBa tb ?_); try (first | refine gl tb ?_ | refine gg tb ?_ | refine ll tb ?_ | refine lg tb ?_))
  first | refine G.condD rfl (fun hc => ?_) (fun hc => ?_) | refine G.condN rfl (fun hc => ?_) (fun hc => ?_) | refine G.cond rfl (fun hc => ?_) (fun hc => ?_)
  · have hlt : k < s.length := by omega
    have hdr := drop_at hlt
    try (first | refine gl tb ?_ | refine gg tb ?_ | refine ll tb ?_ | refine lg tb ?_); repeat ((first | refine G.condT rfl ?_ | refine G.condF rfl ?_ | refine sFa tb ?_ | refine sLd tb ?_ | refine sLa tb ?_ | refine sLen tb ?_ | refine sFd tb ?_ | refine sBd tb ?_ | refine sBa tb ?_); try (first | refine gl tb ?_ | refine gg tb ?_ | refine ll tb ?_ | refine lg tb ?_))
    refine sBs tb k ?_
    obtain ⟨c, hcc⟩ : ∃ c, c = s.getD k 0 := ⟨_, rfl⟩
    rw [← hcc] at hdr ⊢
    try (first | refine gl tb ?_ | refine gg tb ?_ | refine ll tb ?_ | refine lg tb ?_); repeat ((first | refine G.condT rfl ?_ | refine G.condF rfl ?_ | refine sFa tb ?_ | refine sLd tb ?_ | refine sLa tb ?_ | refine sLen tb ?_ | refine sFd tb ?_ | refine sBd tb ?_ | refine sBa tb ?_); try (first | refine gl tb ?_ | refine gg tb ?_ | refine ll tb ?_ | refine lg tb ?_))
    first | refine G.condD rfl (fun hc => ?_) (fun hc => ?_) | refine G.condN rfl (fun hc => ?_) (fun hc => ?_) | refine G.cond rfl (fun hc => ?_) (fun hc => ?_)
    · simp only [Bool.and_eq_true, decide_eq_true_eq] at hc
      try (first | refine gl tb ?_ | refine gg tb ?_ | refine ll tb ?_ | refine lg tb ?_); repeat ((first | refine G.condT rfl ?_ | refine G.condF rfl ?_ | refine sFa tb ?_ | refine sLd tb ?_ | refine sLa tb ?_ | refine sLen tb ?_ | refine sFd tb ?_ | refine sBd tb ?_ | refine sBa tb ?_); try (first | refine gl tb ?_ | refine gg tb ?_ | refine ll tb ?_ | refine lg tb ?_))
      refine sBs' tb (bysC [32]) ?_ (hkl := bysC_k _)
      intro v1 W1 ho1 hs1 hx1
      have hx01 := hx.trans hx1
      refine sApb tb (hb.to hx1) ho1.sli ?_ (hB := hx01.size)
      intro v2 W2 ho2 hg2
      try (first | refine gl tb ?_ | refine gg tb ?_ | refine ll tb ?_ | refine lg tb ?_); repeat ((first | refine G.condT rfl ?_ | refine G.condF rfl ?_ | refine sFa tb ?_ | refine sLd tb ?_ | refine sLa tb ?_ | refine sLen tb ?_ | refine sFd tb ?_ | refine sBd tb ?_ | refine sBa tb ?_); try (first | refine gl tb ?_ | refine gg tb ?_ | refine ll tb ?_ | refine lg tb ?_))
      refine sAd tb ?_
      try (first | refine gl tb ?_ | refine gg tb ?_ | refine ll tb ?_ | refine lg tb ?_); repeat ((first | refine G.condT rfl ?_ | refine G.condF rfl ?_ | refine sFa tb ?_ | refine sLd tb ?_ | refine sLa tb ?_ | refine sLen tb ?_ | refine sFd tb ?_ | refine sBd tb ?_ | refine sBa tb ?_); try (first | refine gl tb ?_ | refine gg tb ?_ | refine ll tb ?_ | refine lg tb ?_))
      exact G.lp (x := (k, v)) (k + 1, v2) (by repeat (first | exact Sub.nil _ | refine Sub.cons rfl ?_)) (fin k 32 W2 v2 (hg2.below _ hx01) ho2 (Nat.le_refl _) hlt (by rw [hdr, decP_cons, if_pos hc])) (by simp only; omega)
    · have hc1 : ¬ ((c.toNat : Int) = 43 ∧ plus = true) := by
        intro h
        rw [decide_eq_true h.1, h.2] at hc; cases hc
      try (first | refine gl tb ?_ | refine gg tb ?_ | refine ll tb ?_ | refine lg tb ?_); repeat ((first | refine G.condT rfl ?_ | refine G.condF rfl ?_ | refine sFa tb ?_ | refine sLd tb ?_ | refine sLa tb ?_ | refine sLen tb ?_ | refine sFd tb ?_ | refine sBd tb ?_ | refine sBa tb ?_); try (first | refine gl tb ?_ | refine gg tb ?_ | refine ll tb ?_ | refine lg tb ?_))
      refine sBs tb k ?_
      rw [← hcc]
      try (first | refine gl tb ?_ | refine gg tb ?_ | refine ll tb ?_ | refine lg tb ?_); repeat ((first | refine G.condT rfl ?_ | refine G.condF rfl ?_ | refine sFa tb ?_ | refine sLd tb ?_ | refine sLa tb ?_ | refine sLen tb ?_ | refine sFd tb ?_ | refine sBd tb ?_ | refine sBa tb ?_); try (first | refine gl tb ?_ | refine gg tb ?_ | refine ll tb ?_ | refine lg tb ?_))
      first | refine G.condD rfl (fun hc => ?_) (fun hc => ?_) | refine G.condN rfl (fun hc => ?_) (fun hc => ?_) | refine G.cond rfl (fun hc => ?_) (fun hc => ?_)
      · have hdr2 : decP plus (s.drop k) = match s.drop (k + 1) with
            | a :: b :: r' => if hexI a < 0 ∨ hexI b < 0 then none else (decP plus r').map (byI (16 * hexI a + hexI b) :: ·)
            | _ => none := by
          rw [hdr, decP_cons, if_neg hc1, if_pos hc]
          rfl
        try (first | refine gl tb ?_ | refine gg tb ?_ | refine ll tb ?_ | refine lg tb ?_); repeat ((first | refine G.condT rfl ?_ | refine G.condF rfl ?_ | refine sFa tb ?_ | refine sLd tb ?_ | refine sLa tb ?_ | refine sLen tb ?_ | refine sFd tb ?_ | refine sBd tb ?_ | refine sBa tb ?_); try (first | refine gl tb ?_ | refine gg tb ?_ | refine ll tb ?_ | refine lg tb ?_))
        refine sAd tb ?_
        try (first | refine gl tb ?_ | refine gg tb ?_ | refine ll tb ?_ | refine lg tb ?_); repeat ((first | refine G.condT rfl ?_ | refine G.condF rfl ?_ | refine sFa tb ?_ | refine sLd tb ?_ | refine sLa tb ?_ | refine sLen tb ?_ | refine sFd tb ?_ | refine sBd tb ?_ | refine sBa tb ?_); try (first | refine gl tb ?_ | refine gg tb ?_ | refine ll tb ?_ | refine lg tb ?_))
        by_cases hroom : s.length ≤ k + 2
        · rw [show decide ((s.length : Int) ≤ (k : Int) + 2) = true from decide_eq_true (by omega)]
          have hn : decP plus s = none := by
            refine decAt_none hd (hdr2.trans ?_)
            have hl : (s.drop (k + 1)).length ≤ 1 := by rw [List.length_drop]; omega
            match s.drop (k + 1), hl with
            | [], _ => rfl
            | [_], _ => rfl
          rw [hn]
          try (first | refine gl tb ?_ | refine gg tb ?_ | refine ll tb ?_ | refine lg tb ?_); repeat ((first | refine G.condT rfl ?_ | refine G.condF rfl ?_ | refine sFa tb ?_ | refine sLd tb ?_ | refine sLa tb ?_ | refine sLen tb ?_ | refine sFd tb ?_ | refine sBd tb ?_ | refine sBa tb ?_); try (first | refine gl tb ?_ | refine gg tb ?_ | refine ll tb ?_ | refine lg tb ?_))
          refine GL.cons (Step.off (v := .int .i64 0) rfl (of_decide_eq_true rfl) rfl ?_)
          refine GL.cons (Step.off (v := U 0) rfl (of_decide_eq_true rfl) rfl ?_)
          refine GL.cons (Step.off (v := .int .i64 0) rfl (of_decide_eq_true rfl) rfl ?_)
          try (first | refine gl tb ?_ | refine gg tb ?_ | refine ll tb ?_ | refine lg tb ?_); repeat ((first | refine G.condT rfl ?_ | refine G.condF rfl ?_ | refine sFa tb ?_ | refine sLd tb ?_ | refine sLa tb ?_ | refine sLen tb ?_ | refine sFd tb ?_ | refine sBd tb ?_ | refine sBa tb ?_); try (first | refine gl tb ?_ | refine gg tb ?_ | refine ll tb ?_ | refine lg tb ?_))
          refine GL.cons (Step.off (v := .int .i64 0) rfl (of_decide_eq_true rfl) rfl ?_)
          refine GL.cons (Step.off (v := U 0) rfl (of_decide_eq_true rfl) rfl ?_)
          refine GL.cons (Step.off (v := .int .i64 0) rfl (of_decide_eq_true rfl) rfl ?_)
          try (first | refine gl tb ?_ | refine gg tb ?_ | refine ll tb ?_ | refine lg tb ?_); repeat ((first | refine G.condT rfl ?_ | refine G.condF rfl ?_ | refine sFa tb ?_ | refine sLd tb ?_ | refine sLa tb ?_ | refine sLen tb ?_ | refine sFd tb ?_ | refine sBd tb ?_ | refine sBa tb ?_); try (first | refine gl tb ?_ | refine gg tb ?_ | refine ll tb ?_ | refine lg tb ?_))
          refine G.ret2 rfl rfl rfl rfl rfl ?_
          exact ⟨rfl, hx⟩
        · rw [show decide ((s.length : Int) ≤ (k : Int) + 2) = false from decide_eq_false (by omega)]
          have hd1 : s.drop (k + 1) = s.getD (k + 1) 0 :: s.getD (k + 2) 0 :: s.drop (k + 3) := by rw [drop_at (show k + 1 < s.length by omega), drop_at (show k + 2 < s.length by omega)]
          have hgo : decP plus (s.drop k) = if hexI (s.getD (k + 1) 0) < 0 ∨ hexI (s.getD (k + 2) 0) < 0 then none else (decP plus (s.drop (k + 3))).map (byI (16 * hexI (s.getD (k + 1) 0) + hexI (s.getD (k + 2) 0)) :: ·) := by rw [hdr2, hd1]
          have hb1 := hexI_bd (s.getD (k + 1) 0)
          have hb2 := hexI_bd (s.getD (k + 2) 0)
          try (first | refine gl tb ?_ | refine gg tb ?_ | refine ll tb ?_ | refine lg tb ?_); repeat ((first | refine G.condT rfl ?_ | refine G.condF rfl ?_ | refine sFa tb ?_ | refine sLd tb ?_ | refine sLa tb ?_ | refine sLen tb ?_ | refine sFd tb ?_ | refine sBd tb ?_ | refine sBa tb ?_); try (first | refine gl tb ?_ | refine gg tb ?_ | refine ll tb ?_ | refine lg tb ?_))
          refine sAd tb ?_
          refine sBs tb (k + 1) ?_ (hj := fun _ => ⟨by omega, by omega⟩)
          refine sCallx c38 (fun hc => refHex_ext (s.getD (k + 1) 0) W) ?_
          intro W1 hx1
          try (first | refine gl tb ?_ | refine gg tb ?_ | refine ll tb ?_ | refine lg tb ?_); repeat ((first | refine G.condT rfl ?_ | refine G.condF rfl ?_ | refine sFa tb ?_ | refine sLd tb ?_ | refine sLa tb ?_ | refine sLen tb ?_ | refine sFd tb ?_ | refine sBd tb ?_ | refine sBa tb ?_); try (first | refine gl tb ?_ | refine gg tb ?_ | refine ll tb ?_ | refine lg tb ?_))
          refine sAd tb ?_
          refine sBs tb (k + 2) ?_ (hj := fun _ => ⟨by omega, by omega⟩)
          refine sCallx c38 (fun hc => refHex_ext (s.getD (k + 2) 0) W1) ?_
          intro W2 hx2
          have hx02 := hx.trans (hx1.trans hx2)
          have hb02 := hb.to (hx1.trans hx2)
          try (first | refine gl tb ?_ | refine gg tb ?_ | refine ll tb ?_ | refine lg tb ?_); repeat ((first | refine G.condT rfl ?_ | refine G.condF rfl ?_ | refine sFa tb ?_ | refine sLd tb ?_ | refine sLa tb ?_ | refine sLen tb ?_ | refine sFd tb ?_ | refine sBd tb ?_ | refine sBa tb ?_); try (first | refine gl tb ?_ | refine gg tb ?_ | refine ll tb ?_ | refine lg tb ?_))
          first | refine G.condD rfl (fun hc => ?_) (fun hc => ?_) | refine G.condN rfl (fun hc => ?_) (fun hc => ?_) | refine G.cond rfl (fun hc => ?_) (fun hc => ?_)
          · rw [if_pos (by simpa using hc)] at hgo
            have hn : decP plus s = none := decAt_none hd hgo
            rw [hn]
            try (first | refine gl tb ?_ | refine gg tb ?_ | refine ll tb ?_ | refine lg tb ?_); repeat ((first | refine G.condT rfl ?_ | refine G.condF rfl ?_ | refine sFa tb ?_ | refine sLd tb ?_ | refine sLa tb ?_ | refine sLen tb ?_ | refine sFd tb ?_ | refine sBd tb ?_ | refine sBa tb ?_); try (first | refine gl tb ?_ | refine gg tb ?_ | refine ll tb ?_ | refine lg tb ?_))
            refine G.ret2 rfl rfl rfl rfl rfl ?_
            exact ⟨rfl, hx02⟩
          · rw [if_neg (by simpa using hc)] at hgo
            try (first | refine gl tb ?_ | refine gg tb ?_ | refine ll tb ?_ | refine lg tb ?_); repeat ((first | refine G.condT rfl ?_ | refine G.condF rfl ?_ | refine sFa tb ?_ | refine sLd tb ?_ | refine sLa tb ?_ | refine sLen tb ?_ | refine sFd tb ?_ | refine sBd tb ?_ | refine sBa tb ?_); try (first | refine gl tb ?_ | refine gg tb ?_ | refine ll tb ?_ | refine lg tb ?_))
            refine G.regionM [(0, true), (1, true), (2, true), (3, true), (4, true), (5, true), (6, true), (7, true), (8, true), (9, true), (10, true), (11, true), (12, true), (13, true), (14, false), (15, false), (16, true)] ((fun _ => True)) (by kernel_rfl) (by kernel_rfl) rfl mixed (trivial) rfl ?_
            try (refine mm tb ?_); repeat ((first | refine dFa tb ?_ | refine dLd tb ?_ | refine dLa tb ?_ | refine dLen tb ?_ | refine dFd tb ?_); try (refine mm tb ?_))
            refine dAd tb ?_
            refine dBs tb (k + 1) ?_ (hj := fun _ => ⟨by omega, by omega⟩)
            refine dCallq c38 (fun w' _ _ => refHex_ok (s.getD (k + 1) 0) w') ?_
            refine dAr (r := 16 * hexI (s.getD (k + 1) 0)) ?_ (hp := wrap_i64 (by omega) (by omega))
            try (refine mm tb ?_); repeat ((first | refine dFa tb ?_ | refine dLd tb ?_ | refine dLa tb ?_ | refine dLen tb ?_ | refine dFd tb ?_); try (refine mm tb ?_))
            refine dAd tb ?_
            refine dBs tb (k + 2) ?_ (hj := fun _ => ⟨by omega, by omega⟩)
            refine dCallq c38 (fun w' _ _ => refHex_ok (s.getD (k + 2) 0) w') ?_
            refine dAr (r := 16 * hexI (s.getD (k + 1) 0) + hexI (s.getD (k + 2) 0)) ?_ (hp := wrap_i64 (by omega) (by omega))
            refine dCb tb ?_
            try (refine mm tb ?_); repeat ((first | refine dFa tb ?_ | refine dLd tb ?_ | refine dLa tb ?_ | refine dLen tb ?_ | refine dFd tb ?_); try (refine mm tb ?_))
            generalize byI (16 * hexI (s.getD (k + 1) 0) + hexI (s.getD (k + 2) 0)) = c' at hgo ⊢
            refine GM.eff (Step.buildSlice tb ((bysC [c'])) rfl rfl rfl rfl rfl rfl (by rfl) rfl (by rfl) (by rfl) (by rfl) (bysC_k _) rfl ?_)
            intro v1 W3 ho1 hs1 hx1
            refine ⟨trivial, ?_⟩
            have hx3 := (Ext.drew W2).trans hx1
            have hx03 := hx02.trans hx3
            have hb03 := hb02.to hx3
            have hbl := bysC_len acc
            have hbl1 := bysC_len [c']
            refine GM.eff (Step.append tb rfl (Op1.of rfl (by first | exact fun _ => rfl | exact fun h => h | exact fun h => bL h | exact fun h => bL (bL h) | exact fun h => bL (bL (bL h)))) (Op1.of rfl (by first | exact fun _ => rfl | exact fun h => h | exact fun h => bL h | exact fun h => bL (bL h) | exact fun h => bL (bL (bL h)))) rfl rfl rfl (by rfl) hb03 ho1.sli (bysC_one _) (by rw [hbl, hbl1, List.length_cons, List.length_nil]; omega) (by rw [hbl, hbl1, List.length_cons, List.length_nil]; omega) hx03.size rfl ?_)
            intro v2 W4 ho2 hg2
            refine ⟨trivial, ?_⟩
            try (refine mm tb ?_); repeat ((first | refine dFa tb ?_ | refine dLd tb ?_ | refine dLa tb ?_ | refine dLen tb ?_ | refine dFd tb ?_); try (refine mm tb ?_))
            refine GM.nil ?_
            try (first | refine gl tb ?_ | refine gg tb ?_ | refine ll tb ?_ | refine lg tb ?_); repeat ((first | refine G.condT rfl ?_ | refine G.condF rfl ?_ | refine sFa tb ?_ | refine sLd tb ?_ | refine sLa tb ?_ | refine sLen tb ?_ | refine sFd tb ?_ | refine sBd tb ?_ | refine sBa tb ?_); try (first | refine gl tb ?_ | refine gg tb ?_ | refine ll tb ?_ | refine lg tb ?_))
            refine sAd tb ?_
            try (first | refine gl tb ?_ | refine gg tb ?_ | refine ll tb ?_ | refine lg tb ?_); repeat ((first | refine G.condT rfl ?_ | refine G.condF rfl ?_ | refine sFa tb ?_ | refine sLd tb ?_ | refine sLa tb ?_ | refine sLen tb ?_ | refine sFd tb ?_ | refine sBd tb ?_ | refine sBa tb ?_); try (first | refine gl tb ?_ | refine gg tb ?_ | refine ll tb ?_ | refine lg tb ?_))
            refine sAd tb ?_
            try (first | refine gl tb ?_ | refine gg tb ?_ | refine ll tb ?_ | refine lg tb ?_); repeat ((first | refine G.condT rfl ?_ | refine G.condF rfl ?_ | refine sFa tb ?_ | refine sLd tb ?_ | refine sLa tb ?_ | refine sLen tb ?_ | refine sFd tb ?_ | refine sBd tb ?_ | refine sBa tb ?_); try (first | refine gl tb ?_ | refine gg tb ?_ | refine ll tb ?_ | refine lg tb ?_))
            exact G.lp (x := (k, v)) (k + 3, v2) (by repeat (first | exact Sub.nil _ | refine Sub.cons rfl ?_)) (fin (k + 2) c' W4 v2 (hg2.below _ hx03) (by unfold BO; rw [bysC_app]; exact ho2) (by omega) (by omega) hgo) (by simp only; omega)
      · try (first | refine gl tb ?_ | refine gg tb ?_ | refine ll tb ?_ | refine lg tb ?_); repeat ((first | refine G.condT rfl ?_ | refine G.condF rfl ?_ | refine sFa tb ?_ | refine sLd tb ?_ | refine sLa tb ?_ | refine sLen tb ?_ | refine sFd tb ?_ | refine sBd tb ?_ | refine sBa tb ?_); try (first | refine gl tb ?_ | refine gg tb ?_ | refine ll tb ?_ | refine lg tb ?_))
        refine sBs tb k ?_
        rw [← hcc]
        refine sBs' tb (bysC [c]) ?_ (hkl := bysC_k _)
        intro v1 W1 ho1 hs1 hx1
        have hx01 := hx.trans hx1
        refine sApb tb (hb.to hx1) ho1.sli ?_ (hB := hx01.size)
        intro v2 W2 ho2 hg2
        try (first | refine gl tb ?_ | refine gg tb ?_ | refine ll tb ?_ | refine lg tb ?_); repeat ((first | refine G.condT rfl ?_ | refine G.condF rfl ?_ | refine sFa tb ?_ | refine sLd tb ?_ | refine sLa tb ?_ | refine sLen tb ?_ | refine sFd tb ?_ | refine sBd tb ?_ | refine sBa tb ?_); try (first | refine gl tb ?_ | refine gg tb ?_ | refine ll tb ?_ | refine lg tb ?_))
        refine sAd tb ?_
        try (first | refine gl tb ?_ | refine gg tb ?_ | refine ll tb ?_ | refine lg tb ?_); repeat ((first | refine G.condT rfl ?_ | refine G.condF rfl ?_ | refine sFa tb ?_ | refine sLd tb ?_ | refine sLa tb ?_ | refine sLen tb ?_ | refine sFd tb ?_ | refine sBd tb ?_ | refine sBa tb ?_); try (first | refine gl tb ?_ | refine gg tb ?_ | refine ll tb ?_ | refine lg tb ?_))
        exact G.lp (x := (k, v)) (k + 1, v2) (by repeat (first | exact Sub.nil _ | refine Sub.cons rfl ?_)) (fin k c W2 v2 (hg2.below _ hx01) ho2 (Nat.le_refl _) hlt (by rw [hdr, decP_cons, if_neg hc1, if_neg hc])) (by simp only; omega)
  · obtain rfl : k = s.length := by omega
    have he : decP plus s = some acc := by
      unfold decAt at hd
      rw [← hd, List.drop_length]; simp [decP]
    rw [he]
    try (first | refine gl tb ?_ | refine gg tb ?_ | refine ll tb ?_ | refine lg tb ?_); repeat ((first | refine G.condT rfl ?_ | refine G.condF rfl ?_ | refine sFa tb ?_ | refine sLd tb ?_ | refine sLa tb ?_ | refine sLen tb ?_ | refine sFd tb ?_ | refine sBd tb ?_ | refine sBa tb ?_); try (first | refine gl tb ?_ | refine gg tb ?_ | refine ll tb ?_ | refine lg tb ?_))
    refine sByS tb hb.sli ?_
    try (first | refine gl tb ?_ | refine gg tb ?_ | refine ll tb ?_ | refine lg tb ?_); repeat ((first | refine G.condT rfl ?_ | refine G.condF rfl ?_ | refine sFa tb ?_ | refine sLd tb ?_ | refine sLa tb ?_ | refine sLen tb ?_ | refine sFd tb ?_ | refine sBd tb ?_ | refine sBa tb ?_); try (first | refine gl tb ?_ | refine gg tb ?_ | refine ll tb ?_ | refine lg tb ?_))
    refine G.ret2 rfl rfl rfl rfl rfl ?_
    exact ⟨rfl, hx⟩
end Go.Proofs.YtlaingmhdgpkdaaDoor
