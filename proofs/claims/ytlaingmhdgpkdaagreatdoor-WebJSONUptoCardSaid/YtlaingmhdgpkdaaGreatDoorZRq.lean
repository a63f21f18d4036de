/- The reference's Quote, walked. -/
import Derived.Test.YtlaingmhdgpkdaaGreatDoorZBk
import Derived.Test.YtlaingmhdgpkdaaGreatDoorZC
import Derived.Test.YtlaingmhdgpkdaaGreatDoorGV2
import Derived.Test.YtlaingmhdgpkdaaGreatDoorV33
open Go Go.Vg Go.RowKit Go.Proofs Go.Proofs.YtlaingmhdgpkdaaGreatDoor
namespace Go.Proofs.YtlaingmhdgpkdaaGreatDoor
set_option linter.unusedSimpArgs false
theorem hexS_lt (k : Nat) (h : k < 16) : k < ([48, 49, 50, 51, 52, 53, 54, 55, 56, 57, 97, 98, 99, 100, 101, 102] : List UInt8).length := by simp only [List.length_cons, List.length_nil]; omega
set_option maxHeartbeats 4000000 in
theorem refQuote_ok (s : List UInt8) (w : World) (hs : s.length ≤ 2000000) :
    Ret Tryz.prog 11 ⟨[S s]⟩ w fun r w' => r = S (quoteP s) ∧ Ext w w' := by
  have hQl := quoteP_len s
  refine ret_of_G Tryz.func11 rfl Tryz.ntmps11 rfl ?_
  simp only [argEnv]
  try (first | refine gl tb ?_ | refine gg tb ?_ | refine ll tb ?_ | refine lg tb ?_); repeat ((first | refine G.condT rfl ?_ | refine G.condF rfl ?_ | refine sFa tb ?_ | refine sLd tb ?_ | refine sLa tb ?_ | refine sLen tb ?_ | refine sFd tb ?_ | refine sBd tb ?_ | refine sBa tb ?_); try (first | refine gl tb ?_ | refine gg tb ?_ | refine ll tb ?_ | refine lg tb ?_))
  refine sBs' tb (bysC [34]) ?_ (hkl := bysC_k _)
  intro v0 W0 ho0 hs0 hx0
  try (first | refine gl tb ?_ | refine gg tb ?_ | refine ll tb ?_ | refine lg tb ?_); repeat ((first | refine G.condT rfl ?_ | refine G.condF rfl ?_ | refine sFa tb ?_ | refine sLd tb ?_ | refine sLa tb ?_ | refine sLen tb ?_ | refine sFd tb ?_ | refine sBd tb ?_ | refine sBa tb ?_); try (first | refine gl tb ?_ | refine gg tb ?_ | refine ll tb ?_ | refine lg tb ?_))
  refine (G.loop (fun x : Nat × Value => [(0, none, S s), (3, none, x.2), (4, none, .int .i64 x.1)]) (fun x W => Ext w W ∧ x.1 ≤ s.length ∧ ∃ acc, BO W w.heap.size x.2 acc ∧ acc ++ quoteF s (s.length - x.1) x.1 ++ [34] = quoteP s) (fun x => s.length - x.1) (0, v0) (by repeat (first | exact Sub.nil _ | refine Sub.cons rfl ?_)) ⟨hx0, by simp, [34], ho0, rfl⟩ ?_)
  clear ho0 hs0 hx0 v0 W0
  rintro ⟨i, v⟩ W ⟨hx, hi, acc, hb, hacc⟩
  simp only at hi hb hacc ⊢
  have hal : acc.length ≤ (quoteP s).length := by rw [← hacc, List.length_append, List.length_append]; omega
  try (first | refine gl tb ?_ | refine gg tb ?_ | refine ll tb ?_ | refine lg tb ?_); repeat ((first | refine G.condT rfl ?_ | refine G.condF rfl ?_ | refine sFa tb ?_ | refine sLd tb ?_ | refine sLa tb ?_ | refine sLen tb ?_ | refine sFd tb ?_ | refine sBd tb ?_ | refine sBa tb ?_); try (first | refine gl tb ?_ | refine gg tb ?_ | refine ll tb ?_ | refine lg tb ?_))
  first | refine G.condD rfl (fun hc => ?_) (fun hc => ?_) | refine G.condN rfl (fun hc => ?_) (fun hc => ?_) | refine G.cond rfl (fun hc => ?_) (fun hc => ?_)
  · have hlt : i < s.length := by omega
    have hst := quoteF_step hlt
    rw [hst] at hacc
    have hle := stepQ_le hlt
    have hpl : acc.length + (pieceQ s i).length + 1 ≤ (quoteP s).length := by rw [← hacc]; simp only [List.length_append, List.length_cons, List.length_nil]; omega
    try (first | refine gl tb ?_ | refine gg tb ?_ | refine ll tb ?_ | refine lg tb ?_); repeat ((first | refine G.condT rfl ?_ | refine G.condF rfl ?_ | refine sFa tb ?_ | refine sLd tb ?_ | refine sLa tb ?_ | refine sLen tb ?_ | refine sFd tb ?_ | refine sBd tb ?_ | refine sBa tb ?_); try (first | refine gl tb ?_ | refine gg tb ?_ | refine ll tb ?_ | refine lg tb ?_))
    refine sCall c32 (utf8_ok s i W (by omega) hlt) ?_
    rintro _ W1 ⟨rfl, hw1⟩
    obtain rfl : W = W1 := hw1.symm
    try (first | refine gl tb ?_ | refine gg tb ?_ | refine ll tb ?_ | refine lg tb ?_); repeat ((first | refine G.condT rfl ?_ | refine G.condF rfl ?_ | refine sFa tb ?_ | refine sLd tb ?_ | refine sLa tb ?_ | refine sLen tb ?_ | refine sFd tb ?_ | refine sBd tb ?_ | refine sBa tb ?_); try (first | refine gl tb ?_ | refine gg tb ?_ | refine ll tb ?_ | refine lg tb ?_))
    refine sBs tb i ?_
    have hpz : u8len s i = 0 → pieceQ s i = fffdQ := fun h => by unfold pieceQ; rw [if_pos h]
    have hpa : u8len s i ≠ 0 → (s.getD i 0).toNat < 128 → pieceQ s i = q1 (s.getD i 0) := fun h h2 => by unfold pieceQ; rw [if_neg h, if_pos h2]
    have hpb : u8len s i ≠ 0 → 128 ≤ (s.getD i 0).toNat → pieceQ s i = (s.drop i).take (u8len s i) := fun h h2 => by unfold pieceQ; rw [if_neg h, if_neg (by omega)]
    have hsz : u8len s i = 0 → stepQ s i = 1 := fun h => by unfold stepQ; rw [if_pos h]
    have hsn : u8len s i ≠ 0 → stepQ s i = u8len s i := fun h => by unfold stepQ; rw [if_neg h]
    obtain ⟨c, hcc⟩ : ∃ c, s.getD i 0 = c := ⟨_, rfl⟩
    rw [hcc] at hpa hpb ⊢
    have hc256 := c.toNat_lt
    try (first | refine gl tb ?_ | refine gg tb ?_ | refine ll tb ?_ | refine lg tb ?_); repeat ((first | refine G.condT rfl ?_ | refine G.condF rfl ?_ | refine sFa tb ?_ | refine sLd tb ?_ | refine sLa tb ?_ | refine sLen tb ?_ | refine sFd tb ?_ | refine sBd tb ?_ | refine sBa tb ?_); try (first | refine gl tb ?_ | refine gg tb ?_ | refine ll tb ?_ | refine lg tb ?_))
    refine G.join (fun x : Value × Nat => [(0, none, S s), (3, none, x.1), (4, none, .int .i64 i), (5, none, .int .i64 x.2)]) (fun x w' => Ext w w' ∧ x.2 = stepQ s i ∧ BO w' w.heap.size x.1 (acc ++ pieceQ s i)) ?_ ?_
    · rintro ⟨v2, n⟩ W2 ⟨hx2, hn, hb2⟩
      simp only at hn hb2 ⊢
      try (first | refine gl tb ?_ | refine gg tb ?_ | refine ll tb ?_ | refine lg tb ?_); repeat ((first | refine G.condT rfl ?_ | refine G.condF rfl ?_ | refine sFa tb ?_ | refine sLd tb ?_ | refine sLa tb ?_ | refine sLen tb ?_ | refine sFd tb ?_ | refine sBd tb ?_ | refine sBa tb ?_); try (first | refine gl tb ?_ | refine gg tb ?_ | refine ll tb ?_ | refine lg tb ?_))
      refine sAd tb ?_
      try (first | refine gl tb ?_ | refine gg tb ?_ | refine ll tb ?_ | refine lg tb ?_); repeat ((first | refine G.condT rfl ?_ | refine G.condF rfl ?_ | refine sFa tb ?_ | refine sLd tb ?_ | refine sLa tb ?_ | refine sLen tb ?_ | refine sFd tb ?_ | refine sBd tb ?_ | refine sBa tb ?_); try (first | refine gl tb ?_ | refine gg tb ?_ | refine ll tb ?_ | refine lg tb ?_))
      have hsp := stepQ_pos s i
      exact G.lp (x := (i, v)) (i + n, v2) (by repeat (first | exact Sub.nil _ | refine Sub.cons rfl ?_)) ⟨hx2, by simp only; omega, _, hb2, by simp only; rw [← hacc, hn]; simp only [List.append_assoc]⟩ (by simp only; omega)
    · first | refine G.condD rfl (fun hc => ?_) (fun hc => ?_) | refine G.condN rfl (fun hc => ?_) (fun hc => ?_) | refine G.cond rfl (fun hc => ?_) (fun hc => ?_)
      · have hz : u8len s i = 0 := by omega
        rw [hpz hz] at hpl ⊢
        simp only [fffdQ, List.length_cons, List.length_nil] at hpl ⊢
        try (first | refine gl tb ?_ | refine gg tb ?_ | refine ll tb ?_ | refine lg tb ?_); repeat ((first | refine G.condT rfl ?_ | refine G.condF rfl ?_ | refine sFa tb ?_ | refine sLd tb ?_ | refine sLa tb ?_ | refine sLen tb ?_ | refine sFd tb ?_ | refine sBd tb ?_ | refine sBa tb ?_); try (first | refine gl tb ?_ | refine gg tb ?_ | refine ll tb ?_ | refine lg tb ?_))
        refine sAps tb hb ?_ (hB := hx.size)
        intro v2 W2 ho2 hg2
        try (first | refine gl tb ?_ | refine gg tb ?_ | refine ll tb ?_ | refine lg tb ?_); repeat ((first | refine G.condT rfl ?_ | refine G.condF rfl ?_ | refine sFa tb ?_ | refine sLd tb ?_ | refine sLa tb ?_ | refine sLen tb ?_ | refine sFd tb ?_ | refine sBd tb ?_ | refine sBa tb ?_); try (first | refine gl tb ?_ | refine gg tb ?_ | refine ll tb ?_ | refine lg tb ?_))
        exact G.met (v2, 1) (by repeat (first | exact Sub.nil _ | refine Sub.cons rfl ?_)) ⟨hg2.below _ hx, (hsz hz).symm, ho2⟩
      · have hz : u8len s i ≠ 0 := by omega
        have hlow : c.toNat < 128 → u8len s i = 1 := fun h => u8len_asc hlt (by rw [hcc]; exact h)
        have hq1 := q1_of c
        try (first | refine gl tb ?_ | refine gg tb ?_ | refine ll tb ?_ | refine lg tb ?_); repeat ((first | refine G.condT rfl ?_ | refine G.condF rfl ?_ | refine sFa tb ?_ | refine sLd tb ?_ | refine sLa tb ?_ | refine sLen tb ?_ | refine sFd tb ?_ | refine sBd tb ?_ | refine sBa tb ?_); try (first | refine gl tb ?_ | refine gg tb ?_ | refine ll tb ?_ | refine lg tb ?_))
        first | refine G.condD rfl (fun hc => ?_) (fun hc => ?_) | refine G.condN rfl (fun hc => ?_) (fun hc => ?_) | refine G.cond rfl (fun hc => ?_) (fun hc => ?_)
        · simp only [Bool.or_eq_true, decide_eq_true_eq] at hc
          rw [if_pos (by omega)] at hq1
          rw [hpa hz (by omega), hq1] at hpl ⊢
          simp only [List.length_cons, List.length_nil] at hpl
          try (first | refine gl tb ?_ | refine gg tb ?_ | refine ll tb ?_ | refine lg tb ?_); repeat ((first | refine G.condT rfl ?_ | refine G.condF rfl ?_ | refine sFa tb ?_ | refine sLd tb ?_ | refine sLa tb ?_ | refine sLen tb ?_ | refine sFd tb ?_ | refine sBd tb ?_ | refine sBa tb ?_); try (first | refine gl tb ?_ | refine gg tb ?_ | refine ll tb ?_ | refine lg tb ?_))
          refine sBs' tb (bysC [92, c]) ?_ (hkl := bysC_k _)
          intro v1 W1 ho1 hs1 hx1
          have hx01 := hx.trans hx1
          refine sApb tb (hb.to hx1) ho1.sli ?_ (hB := hx01.size)
          intro v2 W2 ho2 hg2
          try (first | refine gl tb ?_ | refine gg tb ?_ | refine ll tb ?_ | refine lg tb ?_); repeat ((first | refine G.condT rfl ?_ | refine G.condF rfl ?_ | refine sFa tb ?_ | refine sLd tb ?_ | refine sLa tb ?_ | refine sLen tb ?_ | refine sFd tb ?_ | refine sBd tb ?_ | refine sBa tb ?_); try (first | refine gl tb ?_ | refine gg tb ?_ | refine ll tb ?_ | refine lg tb ?_))
          exact G.met (v2, u8len s i) (by repeat (first | exact Sub.nil _ | refine Sub.cons rfl ?_)) ⟨hg2.below _ hx01, (hsn hz).symm, ho2⟩
        · have hn34 : ¬ (c.toNat = 34 ∨ c.toNat = 92) := by
            simp only [Bool.or_eq_false_iff, decide_eq_false_iff_not] at hc; omega
          clear hc
          rw [if_neg hn34] at hq1
          try (first | refine gl tb ?_ | refine gg tb ?_ | refine ll tb ?_ | refine lg tb ?_); repeat ((first | refine G.condT rfl ?_ | refine G.condF rfl ?_ | refine sFa tb ?_ | refine sLd tb ?_ | refine sLa tb ?_ | refine sLen tb ?_ | refine sFd tb ?_ | refine sBd tb ?_ | refine sBa tb ?_); try (first | refine gl tb ?_ | refine gg tb ?_ | refine ll tb ?_ | refine lg tb ?_))
          first | refine G.condD rfl (fun hc => ?_) (fun hc => ?_) | refine G.condN rfl (fun hc => ?_) (fun hc => ?_) | refine G.cond rfl (fun hc => ?_) (fun hc => ?_)
          · rw [if_pos (by omega)] at hq1
            rw [hpa hz (by omega), hq1] at hpl ⊢
            simp only [List.length_cons, List.length_nil] at hpl
            try (first | refine gl tb ?_ | refine gg tb ?_ | refine ll tb ?_ | refine lg tb ?_); repeat ((first | refine G.condT rfl ?_ | refine G.condF rfl ?_ | refine sFa tb ?_ | refine sLd tb ?_ | refine sLa tb ?_ | refine sLen tb ?_ | refine sFd tb ?_ | refine sBd tb ?_ | refine sBa tb ?_); try (first | refine gl tb ?_ | refine gg tb ?_ | refine ll tb ?_ | refine lg tb ?_))
            refine sAps tb hb ?_ (hB := hx.size)
            intro v2 W2 ho2 hg2
            try (first | refine gl tb ?_ | refine gg tb ?_ | refine ll tb ?_ | refine lg tb ?_); repeat ((first | refine G.condT rfl ?_ | refine G.condF rfl ?_ | refine sFa tb ?_ | refine sLd tb ?_ | refine sLa tb ?_ | refine sLen tb ?_ | refine sFd tb ?_ | refine sBd tb ?_ | refine sBa tb ?_); try (first | refine gl tb ?_ | refine gg tb ?_ | refine ll tb ?_ | refine lg tb ?_))
            exact G.met (v2, u8len s i) (by repeat (first | exact Sub.nil _ | refine Sub.cons rfl ?_)) ⟨hg2.below _ hx, (hsn hz).symm, ho2⟩
          · rw [if_neg (by omega)] at hq1
            try (first | refine gl tb ?_ | refine gg tb ?_ | refine ll tb ?_ | refine lg tb ?_); repeat ((first | refine G.condT rfl ?_ | refine G.condF rfl ?_ | refine sFa tb ?_ | refine sLd tb ?_ | refine sLa tb ?_ | refine sLen tb ?_ | refine sFd tb ?_ | refine sBd tb ?_ | refine sBa tb ?_); try (first | refine gl tb ?_ | refine gg tb ?_ | refine ll tb ?_ | refine lg tb ?_))
            first | refine G.condD rfl (fun hc => ?_) (fun hc => ?_) | refine G.condN rfl (fun hc => ?_) (fun hc => ?_) | refine G.cond rfl (fun hc => ?_) (fun hc => ?_)
            · rw [if_pos (by omega)] at hq1
              rw [hpa hz (by omega), hq1] at hpl ⊢
              simp only [List.length_cons, List.length_nil] at hpl
              try (first | refine gl tb ?_ | refine gg tb ?_ | refine ll tb ?_ | refine lg tb ?_); repeat ((first | refine G.condT rfl ?_ | refine G.condF rfl ?_ | refine sFa tb ?_ | refine sLd tb ?_ | refine sLa tb ?_ | refine sLen tb ?_ | refine sFd tb ?_ | refine sBd tb ?_ | refine sBa tb ?_); try (first | refine gl tb ?_ | refine gg tb ?_ | refine ll tb ?_ | refine lg tb ?_))
              refine sAps tb hb ?_ (hB := hx.size)
              intro v2 W2 ho2 hg2
              try (first | refine gl tb ?_ | refine gg tb ?_ | refine ll tb ?_ | refine lg tb ?_); repeat ((first | refine G.condT rfl ?_ | refine G.condF rfl ?_ | refine sFa tb ?_ | refine sLd tb ?_ | refine sLa tb ?_ | refine sLen tb ?_ | refine sFd tb ?_ | refine sBd tb ?_ | refine sBa tb ?_); try (first | refine gl tb ?_ | refine gg tb ?_ | refine ll tb ?_ | refine lg tb ?_))
              exact G.met (v2, u8len s i) (by repeat (first | exact Sub.nil _ | refine Sub.cons rfl ?_)) ⟨hg2.below _ hx, (hsn hz).symm, ho2⟩
            · rw [if_neg (by omega)] at hq1
              try (first | refine gl tb ?_ | refine gg tb ?_ | refine ll tb ?_ | refine lg tb ?_); repeat ((first | refine G.condT rfl ?_ | refine G.condF rfl ?_ | refine sFa tb ?_ | refine sLd tb ?_ | refine sLa tb ?_ | refine sLen tb ?_ | refine sFd tb ?_ | refine sBd tb ?_ | refine sBa tb ?_); try (first | refine gl tb ?_ | refine gg tb ?_ | refine ll tb ?_ | refine lg tb ?_))
              first | refine G.condD rfl (fun hc => ?_) (fun hc => ?_) | refine G.condN rfl (fun hc => ?_) (fun hc => ?_) | refine G.cond rfl (fun hc => ?_) (fun hc => ?_)
              · rw [if_pos (by omega)] at hq1
                rw [hpa hz (by omega), hq1] at hpl ⊢
                simp only [List.length_cons, List.length_nil] at hpl
                try (first | refine gl tb ?_ | refine gg tb ?_ | refine ll tb ?_ | refine lg tb ?_); repeat ((first | refine G.condT rfl ?_ | refine G.condF rfl ?_ | refine sFa tb ?_ | refine sLd tb ?_ | refine sLa tb ?_ | refine sLen tb ?_ | refine sFd tb ?_ | refine sBd tb ?_ | refine sBa tb ?_); try (first | refine gl tb ?_ | refine gg tb ?_ | refine ll tb ?_ | refine lg tb ?_))
                refine sAps tb hb ?_ (hB := hx.size)
                intro v2 W2 ho2 hg2
                try (first | refine gl tb ?_ | refine gg tb ?_ | refine ll tb ?_ | refine lg tb ?_); repeat ((first | refine G.condT rfl ?_ | refine G.condF rfl ?_ | refine sFa tb ?_ | refine sLd tb ?_ | refine sLa tb ?_ | refine sLen tb ?_ | refine sFd tb ?_ | refine sBd tb ?_ | refine sBa tb ?_); try (first | refine gl tb ?_ | refine gg tb ?_ | refine ll tb ?_ | refine lg tb ?_))
                exact G.met (v2, u8len s i) (by repeat (first | exact Sub.nil _ | refine Sub.cons rfl ?_)) ⟨hg2.below _ hx, (hsn hz).symm, ho2⟩
              · rw [if_neg (by omega)] at hq1
                try (first | refine gl tb ?_ | refine gg tb ?_ | refine ll tb ?_ | refine lg tb ?_); repeat ((first | refine G.condT rfl ?_ | refine G.condF rfl ?_ | refine sFa tb ?_ | refine sLd tb ?_ | refine sLa tb ?_ | refine sLen tb ?_ | refine sFd tb ?_ | refine sBd tb ?_ | refine sBa tb ?_); try (first | refine gl tb ?_ | refine gg tb ?_ | refine ll tb ?_ | refine lg tb ?_))
                first | refine G.condD rfl (fun hc => ?_) (fun hc => ?_) | refine G.condN rfl (fun hc => ?_) (fun hc => ?_) | refine G.cond rfl (fun hc => ?_) (fun hc => ?_)
                · rw [if_pos (by omega)] at hq1
                  have hc32 : c.toNat < 32 := by omega
                  rw [hpa hz (by omega), hq1] at hpl ⊢
                  simp only [List.length_cons, List.length_nil] at hpl
                  try (first | refine gl tb ?_ | refine gg tb ?_ | refine ll tb ?_ | refine lg tb ?_); repeat ((first | refine G.condT rfl ?_ | refine G.condF rfl ?_ | refine sFa tb ?_ | refine sLd tb ?_ | refine sLa tb ?_ | refine sLen tb ?_ | refine sFd tb ?_ | refine sBd tb ?_ | refine sBa tb ?_); try (first | refine gl tb ?_ | refine gg tb ?_ | refine ll tb ?_ | refine lg tb ?_))
                  refine sAps tb hb ?_ (hB := hx.size)
                  intro v1 W1 ho1 hg1
                  have hx1 : Ext w W1 := hg1.below _ hx
                  try (first | refine gl tb ?_ | refine gg tb ?_ | refine ll tb ?_ | refine lg tb ?_); repeat ((first | refine G.condT rfl ?_ | refine G.condF rfl ?_ | refine sFa tb ?_ | refine sLd tb ?_ | refine sLa tb ?_ | refine sLen tb ?_ | refine sFd tb ?_ | refine sBd tb ?_ | refine sBa tb ?_); try (first | refine gl tb ?_ | refine gg tb ?_ | refine ll tb ?_ | refine lg tb ?_))
                  refine G.regionM [(0, true), (1, true), (2, true), (3, true), (4, true), (5, true), (6, true), (7, false), (8, false), (9, true)] ((fun _ => True)) (by kernel_rfl) (by kernel_rfl) rfl mixed (trivial) rfl ?_
                  try (refine mm tb ?_); repeat ((first | refine dFa tb ?_ | refine dLd tb ?_ | refine dLa tb ?_ | refine dLen tb ?_ | refine dFd tb ?_); try (refine mm tb ?_))
                  refine GM.read (fun w' hS => Step.quo (r := ((c.toNat / 16 : Nat) : Int)) rfl (Op1.of rfl (by first | exact fun _ => rfl | exact fun h => h | exact fun h => bL h | exact fun h => bL (bL h) | exact fun h => bL (bL (bL h)))) (Op1.of rfl (by first | exact fun _ => rfl | exact fun h => h | exact fun h => bL h | exact fun h => bL (bL h) | exact fun h => bL (bL (bL h)))) (fun _ => by omega) (by rw [show (c.toNat : Int).tdiv 16 = ((c.toNat / 16 : Nat) : Int) from rfl]; exact (wrap_u8 _).trans (by omega)) rfl ⟨rfl, rfl⟩) rfl rfl ?_
                  refine GM.read (fun w' hS => Step.indexSk tb (c.toNat / 16) rfl (Op1.of rfl (by first | exact fun _ => rfl | exact fun h => h | exact fun h => bL h | exact fun h => bL (bL h) | exact fun h => bL (bL (bL h)))) (Op1.of rfl (by first | exact fun _ => rfl | exact fun h => h | exact fun h => bL h | exact fun h => bL (bL h) | exact fun h => bL (bL (bL h)))) rfl (fun _ => ⟨rfl, hexS_lt _ (by omega)⟩) rfl ⟨rfl, rfl⟩) rfl rfl ?_
                  try (refine mm tb ?_); repeat ((first | refine dFa tb ?_ | refine dLd tb ?_ | refine dLa tb ?_ | refine dLen tb ?_ | refine dFd tb ?_); try (refine mm tb ?_))
                  refine GM.read (fun w' hS => Step.rem (r := ((c.toNat % 16 : Nat) : Int)) rfl (Op1.of rfl (by first | exact fun _ => rfl | exact fun h => h | exact fun h => bL h | exact fun h => bL (bL h) | exact fun h => bL (bL (bL h)))) (Op1.of rfl (by first | exact fun _ => rfl | exact fun h => h | exact fun h => bL h | exact fun h => bL (bL h) | exact fun h => bL (bL (bL h)))) (fun _ => by omega) rfl rfl ⟨rfl, rfl⟩) rfl rfl ?_
                  refine GM.read (fun w' hS => Step.indexSk tb (c.toNat % 16) rfl (Op1.of rfl (by first | exact fun _ => rfl | exact fun h => h | exact fun h => bL h | exact fun h => bL (bL h) | exact fun h => bL (bL (bL h)))) (Op1.of rfl (by first | exact fun _ => rfl | exact fun h => h | exact fun h => bL h | exact fun h => bL (bL h) | exact fun h => bL (bL (bL h)))) rfl (fun _ => ⟨rfl, hexS_lt _ (by omega)⟩) rfl ⟨rfl, rfl⟩) rfl rfl ?_
                  try (refine mm tb ?_); repeat ((first | refine dFa tb ?_ | refine dLd tb ?_ | refine dLa tb ?_ | refine dLen tb ?_ | refine dFd tb ?_); try (refine mm tb ?_))
                  rw [show ([48, 49, 50, 51, 52, 53, 54, 55, 56, 57, 97, 98, 99, 100, 101, 102] : List UInt8).getD (c.toNat / 16) 0 = hexS.getD (c.toNat / 16) 0 from rfl, show ([48, 49, 50, 51, 52, 53, 54, 55, 56, 57, 97, 98, 99, 100, 101, 102] : List UInt8).getD (c.toNat % 16) 0 = hexS.getD (c.toNat % 16) 0 from rfl]
                  generalize hexS.getD (c.toNat / 16) 0 = a at hpl ⊢
                  generalize hexS.getD (c.toNat % 16) 0 = b at hpl ⊢
                  refine GM.eff (Step.buildSlice tb ((bysC [a, b])) rfl rfl rfl rfl rfl rfl (by rfl) rfl (by rfl) (by rfl) (by rfl) (bysC_k _) rfl ?_)
                  intro v3 W3 ho3 hs3 hx3
                  refine ⟨trivial, ?_⟩
                  have hx13 := (Ext.drew W1).trans hx3
                  have hx03 := hx1.trans hx13
                  have hbl := bysC_len (acc ++ [92, 117, 48, 48])
                  have hbl1 := bysC_len [a, b]
                  simp only [List.length_append, List.length_cons, List.length_nil] at hbl hbl1
                  refine GM.eff (Step.append tb rfl (Op1.of rfl (by first | exact fun _ => rfl | exact fun h => h | exact fun h => bL h | exact fun h => bL (bL h) | exact fun h => bL (bL (bL h)))) (Op1.of rfl (by first | exact fun _ => rfl | exact fun h => h | exact fun h => bL h | exact fun h => bL (bL h) | exact fun h => bL (bL (bL h)))) rfl rfl rfl (by rfl) (ho1.to hx13) ho3.sli (bysC_one _) (by rw [hbl, hbl1]; omega) (by rw [hbl, hbl1]; omega) hx03.size rfl ?_)
                  intro v4 W4 ho4 hg4
                  refine ⟨trivial, ?_⟩
                  try (refine mm tb ?_); repeat ((first | refine dFa tb ?_ | refine dLd tb ?_ | refine dLa tb ?_ | refine dLen tb ?_ | refine dFd tb ?_); try (refine mm tb ?_))
                  refine GM.nil ?_
                  try (first | refine gl tb ?_ | refine gg tb ?_ | refine ll tb ?_ | refine lg tb ?_); repeat ((first | refine G.condT rfl ?_ | refine G.condF rfl ?_ | refine sFa tb ?_ | refine sLd tb ?_ | refine sLa tb ?_ | refine sLen tb ?_ | refine sFd tb ?_ | refine sBd tb ?_ | refine sBa tb ?_); try (first | refine gl tb ?_ | refine gg tb ?_ | refine ll tb ?_ | refine lg tb ?_))
                  exact G.met (v4, u8len s i) (by repeat (first | exact Sub.nil _ | refine Sub.cons rfl ?_)) ⟨hg4.below _ hx03, (hsn hz).symm, by rw [← bysC_app, List.append_assoc] at ho4; exact ho4⟩
                · rw [if_neg (by omega)] at hq1
                  have hpe : pieceQ s i = (s.drop i).take (i + u8len s i - i) := by
                    rw [Nat.add_sub_cancel_left]
                    rcases Nat.lt_or_ge c.toNat 128 with h | h
                    · rw [hpa hz h, hq1, hlow h, drop_at hlt, hcc]; rfl
                    · rw [hpb hz h]
                  rw [hsn hz] at hle
                  rw [hpe] at hpl ⊢
                  try (first | refine gl tb ?_ | refine gg tb ?_ | refine ll tb ?_ | refine lg tb ?_); repeat ((first | refine G.condT rfl ?_ | refine G.condF rfl ?_ | refine sFa tb ?_ | refine sLd tb ?_ | refine sLa tb ?_ | refine sLen tb ?_ | refine sFd tb ?_ | refine sBd tb ?_ | refine sBa tb ?_); try (first | refine gl tb ?_ | refine gg tb ?_ | refine ll tb ?_ | refine lg tb ?_))
                  refine sAd tb ?_
                  refine GL.cons (Step.sliceS tb i (i + u8len s i) rfl (Op1.of rfl (by first | exact fun _ => rfl | exact fun h => h | exact fun h => bL h | exact fun h => bL (bL h) | exact fun h => bL (bL (bL h)))) (Op1.of rfl (by first | exact fun _ => rfl | exact fun h => h | exact fun h => bL h | exact fun h => bL (bL h) | exact fun h => bL (bL (bL h)))) (Op1.of rfl (by first | exact fun _ => rfl | exact fun h => h | exact fun h => bL h | exact fun h => bL (bL h) | exact fun h => bL (bL (bL h)))) rfl (fun _ => ⟨rfl, by omega, by omega, by omega⟩) rfl ?_)
                  refine sAps tb hb ?_ (hB := hx.size) (hl := by omega)
                  intro v2 W2 ho2 hg2
                  try (first | refine gl tb ?_ | refine gg tb ?_ | refine ll tb ?_ | refine lg tb ?_); repeat ((first | refine G.condT rfl ?_ | refine G.condF rfl ?_ | refine sFa tb ?_ | refine sLd tb ?_ | refine sLa tb ?_ | refine sLen tb ?_ | refine sFd tb ?_ | refine sBd tb ?_ | refine sBa tb ?_); try (first | refine gl tb ?_ | refine gg tb ?_ | refine ll tb ?_ | refine lg tb ?_))
                  exact G.met (v2, u8len s i) (by repeat (first | exact Sub.nil _ | refine Sub.cons rfl ?_)) ⟨hg2.below _ hx, (hsn hz).symm, ho2⟩
  · have hie : i = s.length := by omega
    rw [hie, Nat.sub_self] at hacc
    simp only [quoteF, List.append_nil] at hacc
    try (first | refine gl tb ?_ | refine gg tb ?_ | refine ll tb ?_ | refine lg tb ?_); repeat ((first | refine G.condT rfl ?_ | refine G.condF rfl ?_ | refine sFa tb ?_ | refine sLd tb ?_ | refine sLa tb ?_ | refine sLen tb ?_ | refine sFd tb ?_ | refine sBd tb ?_ | refine sBa tb ?_); try (first | refine gl tb ?_ | refine gg tb ?_ | refine ll tb ?_ | refine lg tb ?_))
    refine sBs' tb (bysC [34]) ?_ (hkl := bysC_k _)
    intro v1 W1 ho1 hs1 hx1
    have hx01 := hx.trans hx1
    refine sApb tb (hb.to hx1) ho1.sli ?_ (hB := hx01.size)
    intro v2 W2 ho2 hg2
    refine sByS tb ho2.sli ?_
    try (first | refine gl tb ?_ | refine gg tb ?_ | refine ll tb ?_ | refine lg tb ?_); repeat ((first | refine G.condT rfl ?_ | refine G.condF rfl ?_ | refine sFa tb ?_ | refine sLd tb ?_ | refine sLa tb ?_ | refine sLen tb ?_ | refine sFd tb ?_ | refine sBd tb ?_ | refine sBa tb ?_); try (first | refine gl tb ?_ | refine gg tb ?_ | refine ll tb ?_ | refine lg tb ?_))
    refine G.ret1 rfl rfl rfl rfl ?_
    exact ⟨by rw [hacc], hg2.below _ hx01⟩
end Go.Proofs.YtlaingmhdgpkdaaGreatDoor
