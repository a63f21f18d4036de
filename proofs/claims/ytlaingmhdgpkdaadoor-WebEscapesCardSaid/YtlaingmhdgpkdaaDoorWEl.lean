/- The law of escapes, walked. -/
import Derived.Test.YtlaingmhdgpkdaaDoorWEp
open Go Go.Vg Go.RowKit Go.Proofs Go.Proofs.YtlaingmhdgpkdaaDoor
namespace Go.Proofs.YtlaingmhdgpkdaaDoor
set_option linter.unusedSimpArgs false

theorem _root_.Go.Vg.Owns.neNew {w : World} {B b : Nat} {v : Value} {et k : Nat} {xs : List (List Value)} (h : Owns w B v et k xs) (hb : w.heap.size ≤ b) : some b ≠ v.ownBlock := by
  intro e
  rcases h.1.2 with ⟨rfl, _⟩ | ⟨g, cap, cur, rfl, _, hg, _⟩
  · simp [Value.ownBlock] at e
  · simp only [Value.ownBlock, Option.some.injEq] at e
    subst e
    have := (Array.getElem?_eq_some_iff.1 hg).1
    omega
theorem escapes_law (v : Value) (ls : List Lab) (post : Bool) (w : World) (hv : Labs w v ls) (hz : ∀ x ∈ ls, x.1.length ≤ 9223372036854775807 ∧ x.2.length ≤ 9223372036854775807) (hM : MaxC w) (hT : Tabs w) :
    Ret Tryd.prog 5 ⟨[v, .bool post]⟩ w fun r w' => r = .bool true ∧ Ext w w' := by
  have hbd := Labs.bound hv
  obtain ⟨B, hB⟩ : ∃ B, B = w.heap.size := ⟨_, rfl⟩
  refine ret_of_G Tryd.func5 rfl Tryd.ntmps5 rfl ?_
  simp only [argEnv]
  try (first | refine gl tb ?_ | refine gg tb ?_ | refine ll tb ?_ | refine lg tb ?_); repeat ((first | refine G.condT rfl ?_ | refine G.condF rfl ?_ | refine sFa tb ?_ | refine sLd tb ?_ | refine sLa tb ?_ | refine sLen tb ?_ | refine sFd tb ?_ | refine sBd tb ?_ | refine sBa tb ?_); try (first | refine gl tb ?_ | refine gg tb ?_ | refine ll tb ?_ | refine lg tb ?_))
  refine (G.loop (fun x : Nat × Value × List Lab => [(0, none, v), (1, none, .bool post), (5, none, x.2.1), (6, none, S (qR x.2.2)), (7, none, .int .i64 x.1)])
    (fun x W => Ext w W ∧ x.1 ≤ ls.length ∧ LO W B x.2.1 x.2.2 ∧ x.2.2.length ≤ x.1 ∧ x.2.2.length ≤ 6 ∧ x.2.2.all vLab = true ∧ ∀ y ∈ x.2.2, y.1.length + y.2.length ≤ 300) (fun x => ls.length - x.1) (0, .slice none 0 0, []) (by repeat (first | exact Sub.nil _ | refine Sub.cons rfl ?_))
    ⟨Ext.refl _, by simp, Owns.nil _ _ _ _, by simp, by simp, rfl, fun y hy => by cases hy⟩ ?_)
  rintro ⟨k, wv, want⟩ W ⟨hx, hk, ho, hwk, hw6, hwv, hwl⟩
  simp only at hk ho hwk hw6 hwv hwl ⊢
  have hvW := hv.to hx
  have hql := qR_len (L := 300) want hwl
  have hql : (qR want).length ≤ 5412 := by
    have : want.length * (3 * 300 + 2) ≤ 6 * (3 * 300 + 2) := Nat.mul_le_mul_right _ hw6
    omega
  try (first | refine gl tb ?_ | refine gg tb ?_ | refine ll tb ?_ | refine lg tb ?_); repeat ((first | refine G.condT rfl ?_ | refine G.condF rfl ?_ | refine sFa tb ?_ | refine sLd tb ?_ | refine sLa tb ?_ | refine sLen tb ?_ | refine sFd tb ?_ | refine sBd tb ?_ | refine sBa tb ?_); try (first | refine gl tb ?_ | refine gg tb ?_ | refine ll tb ?_ | refine lg tb ?_))
  rw [List.length_map]
  try (first | refine gl tb ?_ | refine gg tb ?_ | refine ll tb ?_ | refine lg tb ?_); repeat ((first | refine G.condT rfl ?_ | refine G.condF rfl ?_ | refine sFa tb ?_ | refine sLd tb ?_ | refine sLa tb ?_ | refine sLen tb ?_ | refine sFd tb ?_ | refine sBd tb ?_ | refine sBa tb ?_); try (first | refine gl tb ?_ | refine gg tb ?_ | refine ll tb ?_ | refine lg tb ?_))
  first | refine G.condD rfl (fun hc => ?_) (fun hc => ?_) | refine G.condN rfl (fun hc => ?_) (fun hc => ?_) | refine G.cond rfl (fun hc => ?_) (fun hc => ?_)
  · simp only [Bool.and_eq_true, decide_eq_true_eq] at hc
    have hlt : k < ls.length := by omega
    have hk6 : k < 6 := by omega
    clear hc
    obtain ⟨x, hmem, hget, -, -, -⟩ := Labs.at hlt
    obtain ⟨hz1, hz2⟩ := hz x hmem
    have hk1 : (x.1.take 1500).length ≤ 10000000 := by rw [List.length_take]; omega
    have hk2 : (x.2.take 1500).length ≤ 10000000 := by rw [List.length_take]; omega
    have hn1 := cleanP_len (x.1.take 1500)
    have hn2 := cleanP_len (x.2.take 1500)
    rw [List.length_take] at hn1 hn2
    have hv1 := cleanP_valid (x.1.take 1500)
    have hv2 := cleanP_valid (x.2.take 1500)
    try (first | refine gl tb ?_ | refine gg tb ?_ | refine ll tb ?_ | refine lg tb ?_); repeat ((first | refine G.condT rfl ?_ | refine G.condF rfl ?_ | refine sFa tb ?_ | refine sLd tb ?_ | refine sLa tb ?_ | refine sLen tb ?_ | refine sFd tb ?_ | refine sBd tb ?_ | refine sBa tb ?_); try (first | refine gl tb ?_ | refine gg tb ?_ | refine ll tb ?_ | refine lg tb ?_))
    refine G.regionG (Ext W) mixed (Ext.drew W) ?_
    have hx0 := Ext.drew W
    generalize W.drew = w0 at hx0 ⊢
    refine GD.join [15, 14, 13, 12, 6, 5, 11, 10, 9, 8, 7, 4, 3, 2, 1, 0] (fun b8 : Nat => [(0, none, v), (1, none, .bool post), (5, none, wv), (6, none, S (qR want)), (7, none, .int .i64 k), (36, none, .agg ⟨[S (cleanP (x.1.take 1500)), S (cleanP (x.2.take 1500))]⟩), (8, none, ptr b8)])
      (fun b8 Y => Ext W Y ∧ W.heap.size ≤ b8 ∧ Bx Y b8 [S [], S []]) ?_ (fun jn => ?_)
    · rintro b8 Y ⟨hxY, hb8z, hb8⟩
      refine GD.steps ([(16, false)]) (by kernel_rfl) (by kernel_rfl) rfl ?_
      refine GM.eff (Step.store0 tb rfl (Op1.of rfl (by first | exact fun _ => rfl | exact fun h => h | exact fun h => bL h | exact fun h => bL (bL h) | exact fun h => bL (bL (bL h)))) (Op1.of rfl (by first | exact fun _ => rfl | exact fun h => h | exact fun h => bL h | exact fun h => bL (bL h) | exact fun h => bL (bL (bL h)))) rfl (rfl) rfl (by simp [Value.oneCell', S, labC]) hb8 rfl ?_)
      intro Y1 hb8 hw1
      have hxY1 : Ext W Y1 := Below.wr hxY hw1 hb8z
      refine ⟨hxY1, ?_⟩
      refine GM.nil ?_
      refine GD.done (by kernel_rfl) ?_
      have hx1 := hx.trans hxY1
      have ho1 := ho.to hxY1
      generalize cleanP (x.1.take 1500) = n1 at hn1 hv1 hb8 ⊢
      generalize cleanP (x.2.take 1500) = n2 at hn2 hv2 hb8 ⊢
      clear hxY hw1 hvW
      try (first | refine gl tb ?_ | refine gg tb ?_ | refine ll tb ?_ | refine lg tb ?_); repeat ((first | refine G.condT rfl ?_ | refine G.condF rfl ?_ | refine sFa tb ?_ | refine sLd tb ?_ | refine sLa tb ?_ | refine sLen tb ?_ | refine sFd tb ?_ | refine sBd tb ?_ | refine sBa tb ?_); try (first | refine gl tb ?_ | refine gg tb ?_ | refine ll tb ?_ | refine lg tb ?_))
      refine sAr (r := ((n1.length + n2.length : Nat) : Int)) ?_ (hp := (wrap_i64 (by omega) (by omega)).trans (by omega))
      try (first | refine gl tb ?_ | refine gg tb ?_ | refine ll tb ?_ | refine lg tb ?_); repeat ((first | refine G.condT rfl ?_ | refine G.condF rfl ?_ | refine sFa tb ?_ | refine sLd tb ?_ | refine sLa tb ?_ | refine sLen tb ?_ | refine sFd tb ?_ | refine sBd tb ?_ | refine sBa tb ?_); try (first | refine gl tb ?_ | refine gg tb ?_ | refine ll tb ?_ | refine lg tb ?_))
      first | refine G.condD rfl (fun hc => ?_) (fun hc => ?_) | refine G.condN rfl (fun hc => ?_) (fun hc => ?_) | refine G.cond rfl (fun hc => ?_) (fun hc => ?_)
      · try (first | refine gl tb ?_ | refine gg tb ?_ | refine ll tb ?_ | refine lg tb ?_); repeat ((first | refine G.condT rfl ?_ | refine G.condF rfl ?_ | refine sFa tb ?_ | refine sLd tb ?_ | refine sLa tb ?_ | refine sLen tb ?_ | refine sFd tb ?_ | refine sBd tb ?_ | refine sBa tb ?_); try (first | refine gl tb ?_ | refine gg tb ?_ | refine ll tb ?_ | refine lg tb ?_))
        refine sAd tb ?_
        try (first | refine gl tb ?_ | refine gg tb ?_ | refine ll tb ?_ | refine lg tb ?_); repeat ((first | refine G.condT rfl ?_ | refine G.condF rfl ?_ | refine sFa tb ?_ | refine sLd tb ?_ | refine sLa tb ?_ | refine sLen tb ?_ | refine sFd tb ?_ | refine sBd tb ?_ | refine sBa tb ?_); try (first | refine gl tb ?_ | refine gg tb ?_ | refine ll tb ?_ | refine lg tb ?_))
        exact G.lp (x := (k, wv, want)) (k + 1, wv, want) (by repeat (first | exact Sub.nil _ | refine Sub.cons rfl ?_)) ⟨hx1, by simp only; omega, ho1, by simp only; omega, hw6, hwv, hwl⟩ (by simp only; omega)
      · simp only [Bool.or_eq_false_iff, decide_eq_false_iff_not] at hc
        obtain ⟨hc1, hc2⟩ := hc
        have hnl : n1.length + n2.length ≤ 300 := by omega
        have he1 := escP_len n1
        have he2 := escP_len n2
        have hsn := qR_snoc want (n1, n2)
        have hBW := hx1.size
        try (first | refine gl tb ?_ | refine gg tb ?_ | refine ll tb ?_ | refine lg tb ?_); repeat ((first | refine G.condT rfl ?_ | refine G.condF rfl ?_ | refine sFa tb ?_ | refine sLd tb ?_ | refine sLa tb ?_ | refine sLen tb ?_ | refine sFd tb ?_ | refine sBd tb ?_ | refine sBa tb ?_); try (first | refine gl tb ?_ | refine gg tb ?_ | refine ll tb ?_ | refine lg tb ?_))
        refine sBs' tb [labC (n1, n2)] ?_ (hkl := labLen [_])
        intro v1 Y2 hov hs2 hx2
        refine sApp tb (ho1.to hx2) hov.sli ?_ (h1 := lab1 [_]) (hB := by have := hx2.size; omega)
        intro v2 Y3 ho3 hg3
        have hb83 := (hb8.to hx2).grew hg3 (ho.neNew hb8z)
        have hx3 : Ext w Y3 := Below.trans (hx1.trans hx2) ((hg3.below _ (Below.refl _ _)).mono (by omega))
        have hLO : LO Y3 B v2 (want ++ [(n1, n2)]) := by unfold LO; rw [List.map_append]; exact ho3
        clear ho3 hg3 hov hb8
        try (first | refine gl tb ?_ | refine gg tb ?_ | refine ll tb ?_ | refine lg tb ?_); repeat ((first | refine G.condT rfl ?_ | refine G.condF rfl ?_ | refine sFa tb ?_ | refine sLd tb ?_ | refine sLa tb ?_ | refine sLen tb ?_ | refine sFd tb ?_ | refine sBd tb ?_ | refine sBa tb ?_); try (first | refine gl tb ?_ | refine gg tb ?_ | refine ll tb ?_ | refine lg tb ?_))
        refine G.join (fun q : List UInt8 => [(0, none, v), (1, none, .bool post), (5, none, v2), (6, none, S q), (7, none, .int .i64 k), (8, none, ptr b8)]) (fun q Y => Y = Y3 ∧ q ++ itP (n1, n2) = qR (want ++ [(n1, n2)]) ∧ q.length ≤ 5413) ?_ ?_
        · rintro q _ ⟨rfl, hq, hqc⟩
          rename_i Y3
          try (first | refine gl tb ?_ | refine gg tb ?_ | refine ll tb ?_ | refine lg tb ?_); repeat ((first | refine G.condT rfl ?_ | refine G.condF rfl ?_ | refine sFa tb ?_ | refine sLd tb ?_ | refine sLa tb ?_ | refine sLen tb ?_ | refine sFd tb ?_ | refine sBd tb ?_ | refine sBa tb ?_); try (first | refine gl tb ?_ | refine gg tb ?_ | refine ll tb ?_ | refine lg tb ?_))
          refine G.regionM [(0, true), (1, true), (2, true), (6, true), (7, true), (3, false), (4, true), (5, true), (8, false), (9, true), (10, true)] (Ext Y3) (by kernel_rfl) (by kernel_rfl) rfl mixed (Ext.drew Y3) rfl ?_
          have hx4 := Ext.drew Y3
          try (refine mm tb ?_); repeat ((first | refine dFa tb ?_ | refine dLd tb ?_ | refine dLa tb ?_ | refine dLen tb ?_ | refine dFd tb ?_); try (refine mm tb ?_))
          refine GM.eff (Step.callX rfl rfl (by repeat (first | exact OpL.nil | refine OpL.cons (Op1.of rfl (by first | exact fun _ => rfl | exact fun h => h | exact fun h => bL h | exact fun h => bL (bL h) | exact fun h => bL (bL (bL h)))) ?_)) c25 rfl (fun hc => escaped_ok n1 Y3.drew (by omega)) ?_)
          intro Y4 hx44
          have hx4 := hx4.trans hx44
          refine ⟨hx4, ?_⟩
          refine dCat tb ?_ (hk := fun _ => by omega)
          refine dCat tb ?_ (hk := fun _ => by simp only [List.length_append, List.length_cons, List.length_nil]; omega)
          try (refine mm tb ?_); repeat ((first | refine dFa tb ?_ | refine dLd tb ?_ | refine dLa tb ?_ | refine dLen tb ?_ | refine dFd tb ?_); try (refine mm tb ?_))
          refine GM.eff (Step.callX rfl rfl (by repeat (first | exact OpL.nil | refine OpL.cons (Op1.of rfl (by first | exact fun _ => rfl | exact fun h => h | exact fun h => bL h | exact fun h => bL (bL h) | exact fun h => bL (bL (bL h)))) ?_)) c25 rfl (fun hc => escaped_ok n2 Y4 (by omega)) ?_)
          intro Y5 hx55
          have hx5 := hx4.trans hx55
          refine ⟨hx5, ?_⟩
          refine dCat tb ?_ (hk := fun _ => by simp only [List.length_append, List.length_cons, List.length_nil]; omega)
          try (refine mm tb ?_); repeat ((first | refine dFa tb ?_ | refine dLd tb ?_ | refine dLa tb ?_ | refine dLen tb ?_ | refine dFd tb ?_); try (refine mm tb ?_))
          refine GM.nil ?_
          have hqq : q ++ escP n1 ++ [61] ++ escP n2 = qR (want ++ [(n1, n2)]) := by rw [← hq]; simp [itP]
          rw [hqq]
          try (first | refine gl tb ?_ | refine gg tb ?_ | refine ll tb ?_ | refine lg tb ?_); repeat ((first | refine G.condT rfl ?_ | refine G.condF rfl ?_ | refine sFa tb ?_ | refine sLd tb ?_ | refine sLa tb ?_ | refine sLen tb ?_ | refine sFd tb ?_ | refine sBd tb ?_ | refine sBa tb ?_); try (first | refine gl tb ?_ | refine gg tb ?_ | refine ll tb ?_ | refine lg tb ?_))
          refine sAd tb ?_
          try (first | refine gl tb ?_ | refine gg tb ?_ | refine ll tb ?_ | refine lg tb ?_); repeat ((first | refine G.condT rfl ?_ | refine G.condF rfl ?_ | refine sFa tb ?_ | refine sLd tb ?_ | refine sLa tb ?_ | refine sLen tb ?_ | refine sFd tb ?_ | refine sBd tb ?_ | refine sBa tb ?_); try (first | refine gl tb ?_ | refine gg tb ?_ | refine ll tb ?_ | refine lg tb ?_))
          exact G.lp (x := (k, wv, want)) (k + 1, v2, want ++ [(n1, n2)]) (by repeat (first | exact Sub.nil _ | refine Sub.cons rfl ?_)) ⟨hx3.trans hx5, by simp only; omega, hLO.to hx5, by simp only [List.length_append, List.length_cons, List.length_nil]; omega, by simp only [List.length_append, List.length_cons, List.length_nil]; omega,
            by simp only [List.all_append, hwv, List.all_cons, List.all_nil, vLab, hv1, hv2]; rfl, fun y hy => by
              rcases List.mem_append.1 hy with hy | hy
              · exact hwl y hy
              · obtain rfl : y = (n1, n2) := by simpa using hy
                exact hnl⟩ (by simp only; omega)
        · first | refine G.condD rfl (fun hc => ?_) (fun hc => ?_) | refine G.condN rfl (fun hc => ?_) (fun hc => ?_) | refine G.cond rfl (fun hc => ?_) (fun hc => ?_)
          · have hne : want ≠ [] := fun e => hc (by rw [e]; rfl)
            rw [if_neg hne] at hsn
            try (first | refine gl tb ?_ | refine gg tb ?_ | refine ll tb ?_ | refine lg tb ?_); repeat ((first | refine G.condT rfl ?_ | refine G.condF rfl ?_ | refine sFa tb ?_ | refine sLd tb ?_ | refine sLa tb ?_ | refine sLen tb ?_ | refine sFd tb ?_ | refine sBd tb ?_ | refine sBa tb ?_); try (first | refine gl tb ?_ | refine gg tb ?_ | refine ll tb ?_ | refine lg tb ?_))
            refine sCat tb ?_
            try (first | refine gl tb ?_ | refine gg tb ?_ | refine ll tb ?_ | refine lg tb ?_); repeat ((first | refine G.condT rfl ?_ | refine G.condF rfl ?_ | refine sFa tb ?_ | refine sLd tb ?_ | refine sLa tb ?_ | refine sLen tb ?_ | refine sFd tb ?_ | refine sBd tb ?_ | refine sBa tb ?_); try (first | refine gl tb ?_ | refine gg tb ?_ | refine ll tb ?_ | refine lg tb ?_))
            exact G.met (qR want ++ [38]) (by repeat (first | exact Sub.nil _ | refine Sub.cons rfl ?_)) ⟨rfl, by rw [hsn]; simp, by simp only [List.length_append, List.length_cons, List.length_nil]; omega⟩
          · have hne : want = [] := qR_nil.1 (by simpa using hc)
            rw [if_pos hne] at hsn
            try (first | refine gl tb ?_ | refine gg tb ?_ | refine ll tb ?_ | refine lg tb ?_); repeat ((first | refine G.condT rfl ?_ | refine G.condF rfl ?_ | refine sFa tb ?_ | refine sLd tb ?_ | refine sLa tb ?_ | refine sLen tb ?_ | refine sFd tb ?_ | refine sBd tb ?_ | refine sBa tb ?_); try (first | refine gl tb ?_ | refine gg tb ?_ | refine ll tb ?_ | refine lg tb ?_))
            exact G.met (qR want) (by repeat (first | exact Sub.nil _ | refine Sub.cons rfl ?_)) ⟨rfl, by rw [hsn, hne]; rfl, by omega⟩
    · refine GD.steps ([(0, true), (1, true), (2, true), (3, true), (4, true), (7, true), (8, true), (9, true), (10, true), (11, true)]) (by kernel_rfl) (by kernel_rfl) rfl ?_
      try (refine mm tb ?_); repeat ((first | refine dFa tb ?_ | refine dLd tb ?_ | refine dLa tb ?_ | refine dLen tb ?_ | refine dFd tb ?_ | refine dIa tb k ?_); try (refine mm tb ?_))
      refine GM.nil ?_
      refine GD.two (5) (15) (by kernel_rfl) (by kernel_rfl) rfl rfl ?_ ?_
      · refine (Step.callF rfl rfl rfl c11 rfl (short_ok x.1 w0 hz1) ?_)
        rintro _ wf0 ⟨rfl, hxwf0⟩
        have hywf0 := hx0.trans hxwf0
        refine ⟨hywf0, ?_⟩
        refine GD.two (6) (15) (by kernel_rfl) (by kernel_rfl) rfl rfl ?_ ?_
        · refine (Step.callF rfl rfl rfl c24 rfl (clean_ok (x.1.take 1500) wf0 hk1) ?_)
          rintro _ wf1 ⟨rfl, hwwf1⟩
          obtain rfl : wf0 = wf1 := hwwf1.symm
          refine ⟨hywf0, ?_⟩
          refine GD.two (12) (15) (by kernel_rfl) (by kernel_rfl) rfl rfl ?_ ?_
          · refine (Step.callF rfl rfl rfl c11 rfl (short_ok x.2 wf0 hz2) ?_)
            rintro _ wf2 ⟨rfl, hxwf2⟩
            have hywf2 := hywf0.trans hxwf2
            refine ⟨hywf2, ?_⟩
            refine GD.two (13) (15) (by kernel_rfl) (by kernel_rfl) rfl rfl ?_ ?_
            · refine (Step.callF rfl rfl rfl c24 rfl (clean_ok (x.2.take 1500) wf2 hk2) ?_)
              rintro _ wf3 ⟨rfl, hwwf3⟩
              obtain rfl : wf2 = wf3 := hwwf3.symm
              refine ⟨hywf2, ?_⟩
              refine GD.steps ([(14, true), (15, false)]) (by kernel_rfl) (by kernel_rfl) rfl ?_
              refine GM.read (fun w' hS => Step.build tb rfl rfl rfl rfl rfl rfl rfl rfl rfl ⟨rfl, rfl⟩) rfl rfl ?_
              refine GM.eff (Step.alloc tb rfl rfl rfl rfl ?_)
              intro wa hba hsa hxa
              refine ⟨hywf2.trans hxa, ?_⟩
              refine GM.nil ?_
              exact jn wf2.heap.size wa _ _ (by kernel_rfl) (by kernel_rfl) (by repeat (first | exact Sub.nil _ | refine Sub.cons rfl ?_)) ⟨hywf2.trans hxa, hywf2.size, hba⟩
            · refine (Step.alloc tb rfl rfl rfl rfl ?_)
              intro wa hba hsa hxa
              have hxa0 := hywf2.trans hxa
              refine ⟨hxa0, ?_⟩
              refine GD.steps ([(13, false), (14, true)]) (by kernel_rfl) (by kernel_rfl) rfl ?_
              refine GM.eff (Step.callF rfl rfl rfl c24 rfl (clean_ok (x.2.take 1500) wa hk2) ?_)
              rintro _ wb0 ⟨rfl, hwwb0⟩
              obtain rfl : wa = wb0 := hwwb0.symm
              refine ⟨hxa0, ?_⟩
              refine GM.read (fun w' hS => Step.build tb rfl rfl rfl rfl rfl rfl rfl rfl rfl ⟨rfl, rfl⟩) rfl rfl ?_
              refine GM.nil ?_
              exact jn wf2.heap.size wa _ _ (by kernel_rfl) (by kernel_rfl) (by repeat (first | exact Sub.nil _ | refine Sub.cons rfl ?_)) ⟨hxa0, hywf2.size, hba⟩
          · refine (Step.alloc tb rfl rfl rfl rfl ?_)
            intro wa hba hsa hxa
            have hxa0 := hywf0.trans hxa
            refine ⟨hxa0, ?_⟩
            refine GD.steps ([(12, false), (13, false), (14, true)]) (by kernel_rfl) (by kernel_rfl) rfl ?_
            refine GM.eff (Step.callF rfl rfl rfl c11 rfl (short_ok x.2 wa hz2) ?_)
            rintro _ wb0 ⟨rfl, hxwb0⟩
            have hywb0 := hxa0.trans hxwb0
            have hbwb0 := hba.to hxwb0
            refine ⟨hywb0, ?_⟩
            refine GM.eff (Step.callF rfl rfl rfl c24 rfl (clean_ok (x.2.take 1500) wb0 hk2) ?_)
            rintro _ wb1 ⟨rfl, hwwb1⟩
            obtain rfl : wb0 = wb1 := hwwb1.symm
            refine ⟨hywb0, ?_⟩
            refine GM.read (fun w' hS => Step.build tb rfl rfl rfl rfl rfl rfl rfl rfl rfl ⟨rfl, rfl⟩) rfl rfl ?_
            refine GM.nil ?_
            exact jn wf0.heap.size wb0 _ _ (by kernel_rfl) (by kernel_rfl) (by repeat (first | exact Sub.nil _ | refine Sub.cons rfl ?_)) ⟨hywb0, hywf0.size, hbwb0⟩
        · refine (Step.alloc tb rfl rfl rfl rfl ?_)
          intro wa hba hsa hxa
          have hxa0 := hywf0.trans hxa
          refine ⟨hxa0, ?_⟩
          refine GD.steps ([(6, false), (12, false), (13, false), (14, true)]) (by kernel_rfl) (by kernel_rfl) rfl ?_
          refine GM.eff (Step.callF rfl rfl rfl c24 rfl (clean_ok (x.1.take 1500) wa hk1) ?_)
          rintro _ wb0 ⟨rfl, hwwb0⟩
          obtain rfl : wa = wb0 := hwwb0.symm
          refine ⟨hxa0, ?_⟩
          refine GM.eff (Step.callF rfl rfl rfl c11 rfl (short_ok x.2 wa hz2) ?_)
          rintro _ wb1 ⟨rfl, hxwb1⟩
          have hywb1 := hxa0.trans hxwb1
          have hbwb1 := hba.to hxwb1
          refine ⟨hywb1, ?_⟩
          refine GM.eff (Step.callF rfl rfl rfl c24 rfl (clean_ok (x.2.take 1500) wb1 hk2) ?_)
          rintro _ wb2 ⟨rfl, hwwb2⟩
          obtain rfl : wb1 = wb2 := hwwb2.symm
          refine ⟨hywb1, ?_⟩
          refine GM.read (fun w' hS => Step.build tb rfl rfl rfl rfl rfl rfl rfl rfl rfl ⟨rfl, rfl⟩) rfl rfl ?_
          refine GM.nil ?_
          exact jn wf0.heap.size wb1 _ _ (by kernel_rfl) (by kernel_rfl) (by repeat (first | exact Sub.nil _ | refine Sub.cons rfl ?_)) ⟨hywb1, hywf0.size, hbwb1⟩
      · refine (Step.alloc tb rfl rfl rfl rfl ?_)
        intro wa hba hsa hxa
        have hxa0 := hx0.trans hxa
        refine ⟨hxa0, ?_⟩
        refine GD.steps ([(5, false), (6, false), (12, false), (13, false), (14, true)]) (by kernel_rfl) (by kernel_rfl) rfl ?_
        refine GM.eff (Step.callF rfl rfl rfl c11 rfl (short_ok x.1 wa hz1) ?_)
        rintro _ wb0 ⟨rfl, hxwb0⟩
        have hywb0 := hxa0.trans hxwb0
        have hbwb0 := hba.to hxwb0
        refine ⟨hywb0, ?_⟩
        refine GM.eff (Step.callF rfl rfl rfl c24 rfl (clean_ok (x.1.take 1500) wb0 hk1) ?_)
        rintro _ wb1 ⟨rfl, hwwb1⟩
        obtain rfl : wb0 = wb1 := hwwb1.symm
        refine ⟨hywb0, ?_⟩
        refine GM.eff (Step.callF rfl rfl rfl c11 rfl (short_ok x.2 wb0 hz2) ?_)
        rintro _ wb2 ⟨rfl, hxwb2⟩
        have hywb2 := hywb0.trans hxwb2
        have hbwb2 := hbwb0.to hxwb2
        refine ⟨hywb2, ?_⟩
        refine GM.eff (Step.callF rfl rfl rfl c24 rfl (clean_ok (x.2.take 1500) wb2 hk2) ?_)
        rintro _ wb3 ⟨rfl, hwwb3⟩
        obtain rfl : wb2 = wb3 := hwwb3.symm
        refine ⟨hywb2, ?_⟩
        refine GM.read (fun w' hS => Step.build tb rfl rfl rfl rfl rfl rfl rfl rfl rfl ⟨rfl, rfl⟩) rfl rfl ?_
        refine GM.nil ?_
        exact jn w0.heap.size wb2 _ _ (by kernel_rfl) (by kernel_rfl) (by repeat (first | exact Sub.nil _ | refine Sub.cons rfl ?_)) ⟨hywb2, hx0.size, hbwb2⟩
  · clear hc
    have hrg := read_get want (by omega) hwv
    have hrp := read_post want (by omega) hwv
    have hpl : postHd.length = 83 := by decide
    generalize qR want = q at hql hrg hrp ⊢
    have hdl := digF_len 19 q.length
    try (first | refine gl tb ?_ | refine gg tb ?_ | refine ll tb ?_ | refine lg tb ?_); repeat ((first | refine G.condT rfl ?_ | refine G.condF rfl ?_ | refine sFa tb ?_ | refine sLd tb ?_ | refine sLa tb ?_ | refine sLen tb ?_ | refine sFd tb ?_ | refine sBd tb ?_ | refine sBa tb ?_); try (first | refine gl tb ?_ | refine gg tb ?_ | refine ll tb ?_ | refine lg tb ?_))
    refine sCat tb ?_
    refine sCat tb ?_
    try (first | refine gl tb ?_ | refine gg tb ?_ | refine ll tb ?_ | refine lg tb ?_); repeat ((first | refine G.condT rfl ?_ | refine G.condF rfl ?_ | refine sFa tb ?_ | refine sLd tb ?_ | refine sLa tb ?_ | refine sLen tb ?_ | refine sFd tb ?_ | refine sBd tb ?_ | refine sBa tb ?_); try (first | refine gl tb ?_ | refine gg tb ?_ | refine ll tb ?_ | refine lg tb ?_))
    refine G.join (fun x : List UInt8 × List UInt8 => [(5, none, wv), (9, none, S x.1)]) (fun x Y => Ext W Y ∧ readP x.1 = ((x.2, [47, 112], want), 200) ∧ x.1.length ≤ 100000) ?_ ?_
    · rintro ⟨raw, m⟩ Y ⟨hxY, hr, hrl⟩
      simp only at hr hrl ⊢
      have hx1 := hx.trans hxY
      try (first | refine gl tb ?_ | refine gg tb ?_ | refine ll tb ?_ | refine lg tb ?_); repeat ((first | refine G.condT rfl ?_ | refine G.condF rfl ?_ | refine sFa tb ?_ | refine sLd tb ?_ | refine sLa tb ?_ | refine sLen tb ?_ | refine sFd tb ?_ | refine sBd tb ?_ | refine sBa tb ?_); try (first | refine gl tb ?_ | refine gg tb ?_ | refine ll tb ?_ | refine lg tb ?_))
      refine GL.cons (Step.strBytes tb rfl (Op1.of rfl (by first | exact fun _ => rfl | exact fun h => h | exact fun h => bL h | exact fun h => bL (bL h) | exact fun h => bL (bL (bL h)))) rfl rfl rfl (by omega) rfl ?_)
      intro rv Y1 hrv hs1 hx2
      have hx02 := hx1.trans hx2
      try (first | refine gl tb ?_ | refine gg tb ?_ | refine ll tb ?_ | refine lg tb ?_); repeat ((first | refine G.condT rfl ?_ | refine G.condF rfl ?_ | refine sFa tb ?_ | refine sLd tb ?_ | refine sLa tb ?_ | refine sLen tb ?_ | refine sFd tb ?_ | refine sBd tb ?_ | refine sBa tb ?_); try (first | refine gl tb ?_ | refine gg tb ?_ | refine ll tb ?_ | refine lg tb ?_))
      refine sCall c9 (read_ok rv raw Y1 hrv (hM.to hx02) (hT.to hx02)) ?_
      rw [hr]
      rintro r Y2 ⟨hx3, u, rfl, hu⟩
      have hx03 := hx02.trans hx3
      obtain ⟨ua, uc, hue, -⟩ := hu.len
      subst hue
      try (first | refine gl tb ?_ | refine gg tb ?_ | refine ll tb ?_ | refine lg tb ?_); repeat ((first | refine G.condT rfl ?_ | refine G.condF rfl ?_ | refine sFa tb ?_ | refine sLd tb ?_ | refine sLa tb ?_ | refine sLen tb ?_ | refine sFd tb ?_ | refine sBd tb ?_ | refine sBa tb ?_); try (first | refine gl tb ?_ | refine gg tb ?_ | refine ll tb ?_ | refine lg tb ?_))
      refine sAl tb ?_
      intro Y3 hb3 hs3 hx4
      refine sSt tb ?_ (vs := reqC m [47, 112] (.slice ua _ uc)) (hv := rfl) (hb := hb3) (h1 := by
        simp only [reqC, List.mem_cons, List.not_mem_nil, or_false]
        rintro x (rfl | rfl | rfl) <;> rfl)
      intro Y4 hb4 hw4
      have hx24 : Ext Y2 Y4 := Below.wr hx4 hw4 (Nat.le_refl _)
      have hx04 := hx03.trans hx24
      have hu4 := hu.to hx24
      have ho4 := ho.to ((((hxY.trans hx2).trans hx3)).trans hx24)
      try (first | refine gl tb ?_ | refine gg tb ?_ | refine ll tb ?_ | refine lg tb ?_); repeat ((first | refine G.condT rfl ?_ | refine G.condF rfl ?_ | refine sFa tb ?_ | refine sLd tb ?_ | refine sLa tb ?_ | refine sLen tb ?_ | refine sFd tb ?_ | refine sBd tb ?_ | refine sBa tb ?_); try (first | refine gl tb ?_ | refine gg tb ?_ | refine ll tb ?_ | refine lg tb ?_))
      refine sCallx (vs := [.slice ua _ uc, wv]) c16 (fun _ => keepLabels_ok (.slice ua _ uc) wv want want Y4 hu4 ho4.sli) ?_
      intro Y5 hx5
      have hx05 := hx04.trans hx5
      try (first | refine gl tb ?_ | refine gg tb ?_ | refine ll tb ?_ | refine lg tb ?_); repeat ((first | refine G.condT rfl ?_ | refine G.condF rfl ?_ | refine sFa tb ?_ | refine sLd tb ?_ | refine sLa tb ?_ | refine sLen tb ?_ | refine sFd tb ?_ | refine sBd tb ?_ | refine sBa tb ?_); try (first | refine gl tb ?_ | refine gg tb ?_ | refine ll tb ?_ | refine lg tb ?_))
      refine sCallx (vs := []) c10 (fun _ => wakes_ok Y5 (hM.to hx05) (hT.to hx05)) ?_
      intro Y6 hx6
      try (first | refine gl tb ?_ | refine gg tb ?_ | refine ll tb ?_ | refine lg tb ?_); repeat ((first | refine G.condT rfl ?_ | refine G.condF rfl ?_ | refine sFa tb ?_ | refine sLd tb ?_ | refine sLa tb ?_ | refine sLen tb ?_ | refine sFd tb ?_ | refine sBd tb ?_ | refine sBa tb ?_); try (first | refine gl tb ?_ | refine gg tb ?_ | refine ll tb ?_ | refine lg tb ?_))
      refine G.ret1 rfl rfl rfl rfl ?_
      exact ⟨congrArg Value.bool (by simp [eqN]), hx05.trans hx6⟩
    · first | refine G.condD rfl (fun hc => ?_) (fun hc => ?_) | refine G.condN rfl (fun hc => ?_) (fun hc => ?_) | refine G.cond rfl (fun hc => ?_) (fun hc => ?_)
      · try (first | refine gl tb ?_ | refine gg tb ?_ | refine ll tb ?_ | refine lg tb ?_); repeat ((first | refine G.condT rfl ?_ | refine G.condF rfl ?_ | refine sFa tb ?_ | refine sLd tb ?_ | refine sLa tb ?_ | refine sLen tb ?_ | refine sFd tb ?_ | refine sBd tb ?_ | refine sBa tb ?_); try (first | refine gl tb ?_ | refine gg tb ?_ | refine ll tb ?_ | refine lg tb ?_))
        refine sCall c8 (digits_ok 19 q.length (by omega) (by omega) (by omega) W) ?_
        rintro _ W2 ⟨rfl, hx2⟩
        refine sCat tb ?_ (hk := fun _ => by show postHd.length + (digF 19 q.length).length ≤ _; omega)
        refine sCat tb ?_ (hk := fun _ => by show (postHd ++ digF 19 q.length).length + 4 ≤ _; simp only [List.length_append]; omega)
        try (first | refine gl tb ?_ | refine gg tb ?_ | refine ll tb ?_ | refine lg tb ?_); repeat ((first | refine G.condT rfl ?_ | refine G.condF rfl ?_ | refine sFa tb ?_ | refine sLd tb ?_ | refine sLa tb ?_ | refine sLen tb ?_ | refine sFd tb ?_ | refine sBd tb ?_ | refine sBa tb ?_); try (first | refine gl tb ?_ | refine gg tb ?_ | refine ll tb ?_ | refine lg tb ?_))
        refine sCat tb ?_ (hk := fun _ => by show (postHd ++ digF 19 q.length ++ [13, 10, 13, 10]).length + q.length ≤ _; simp only [List.length_append, List.length_cons, List.length_nil]; omega)
        try (first | refine gl tb ?_ | refine gg tb ?_ | refine ll tb ?_ | refine lg tb ?_); repeat ((first | refine G.condT rfl ?_ | refine G.condF rfl ?_ | refine sFa tb ?_ | refine sLd tb ?_ | refine sLa tb ?_ | refine sLen tb ?_ | refine sFd tb ?_ | refine sBd tb ?_ | refine sBa tb ?_); try (first | refine gl tb ?_ | refine gg tb ?_ | refine ll tb ?_ | refine lg tb ?_))
        refine G.met (postHd ++ digF 19 q.length ++ [13, 10, 13, 10] ++ q, postS) (by repeat (first | exact Sub.nil _ | refine Sub.cons rfl ?_)) ⟨hx2, hrp, ?_⟩
        simp only [List.length_append, List.length_cons, List.length_nil]; omega
      · try (first | refine gl tb ?_ | refine gg tb ?_ | refine ll tb ?_ | refine lg tb ?_); repeat ((first | refine G.condT rfl ?_ | refine G.condF rfl ?_ | refine sFa tb ?_ | refine sLd tb ?_ | refine sLa tb ?_ | refine sLen tb ?_ | refine sFd tb ?_ | refine sBd tb ?_ | refine sBa tb ?_); try (first | refine gl tb ?_ | refine gg tb ?_ | refine ll tb ?_ | refine lg tb ?_))
        refine G.met (getHd ++ q ++ getTl, getS) (by repeat (first | exact Sub.nil _ | refine Sub.cons rfl ?_)) ⟨Ext.refl _, hrg, ?_⟩
        simp only [getHd, getTl, List.length_append, List.length_cons, List.length_nil]; omega
end Go.Proofs.YtlaingmhdgpkdaaDoor
