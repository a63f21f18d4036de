/- The reference's Params, walked. -/
import Derived.Test.YtlaingmhdgpkdaaDoorWF
open Go Go.Vg Go.RowKit Go.Proofs Go.Proofs.YtlaingmhdgpkdaaDoor
namespace Go.Proofs.YtlaingmhdgpkdaaDoor
set_option linter.unusedSimpArgs false

theorem Strs.at {ns : List (List UInt8)} {k : Nat} (h : k < ns.length) : ∃ s, (ns.map strC)[k]? = some (strC s) ∧ s ∈ ns ∧ ns[k]? = some s := ⟨ns[k], by simp [h], List.getElem_mem h, by simp [h]⟩
theorem piecesF_len (sep : List UInt8) : ∀ (n : Nat) (s p : List UInt8), p ∈ piecesF sep n s → p.length ≤ s.length
  | 0, s, p, h => by simp only [piecesF, List.mem_cons, List.not_mem_nil, or_false] at h; subst h; exact Nat.le_refl _
  | n + 1, s, p, h => by
    simp only [piecesF] at h
    split at h
    · simp only [List.mem_cons, List.not_mem_nil, or_false] at h; subst h; exact Nat.le_refl _
    · rcases List.mem_cons.1 h with h | h
      · subst h; rw [List.length_take]; omega
      · have := piecesF_len sep n _ p h
        rw [List.length_drop] at this; omega
theorem piecesL_len {s sep p : List UInt8} (h : p ∈ piecesL s sep) : p.length ≤ s.length := by
  unfold piecesL at h
  split at h
  · simp only [List.mem_cons, List.not_mem_nil, or_false] at h; subst h; exact Nat.le_refl _
  · exact piecesF_len _ _ _ _ h
theorem piecesF_cnt {sep : List UInt8} (hsep : sep ≠ []) : ∀ (n : Nat) (s : List UInt8), (piecesF sep n s).length ≤ s.length + 1
  | 0, s => by simp [piecesF]
  | n + 1, s => by
    have hl : 0 < sep.length := List.length_pos_iff.2 hsep
    simp only [piecesF]
    split
    · simp
    · rename_i h
      have hr := Lib.index_room s sep (by omega)
      have := piecesF_cnt hsep n (s.drop ((Lib.index s sep).toNat + sep.length))
      rw [List.length_drop] at this
      simp only [List.length_cons]; omega
theorem piecesL_cnt (s sep : List UInt8) : (piecesL s sep).length ≤ s.length + 1 := by
  unfold piecesL
  split
  · simp
  · rename_i h; exact piecesF_cnt h _ _
theorem dec_cut (p : List UInt8) : (Lib.cut p [61]).1 = (if 0 ≤ Lib.index p [61] then p.take (Lib.index p [61]).toNat else p) ∧ (Lib.cut p [61]).2.1 = (if 0 ≤ Lib.index p [61] then p.drop ((Lib.index p [61]).toNat + 1) else []) := by
  unfold Lib.cut
  split <;> simp

theorem refParams_ok (s : List UInt8) (w : World) (hs : s.length ≤ 10000000) :
    Ret Tryd.prog 15 ⟨[S s]⟩ w fun r w' => Ext w w' ∧ (match paramsL (piecesL s [38]) with
      | some ls => ∃ v, r = .tuple ⟨[v, .int .i64 0]⟩ ∧ LO w' w.heap.size v ls
      | none => r = .tuple ⟨[.slice none 0 0, .int .i64 8]⟩) := by
  refine ret_of_G Tryd.func15 rfl Tryd.ntmps15 rfl ?_
  simp only [argEnv]
  try (first | refine gl tb ?_ | refine gg tb ?_ | refine ll tb ?_ | refine lg tb ?_); repeat ((first | refine G.condT rfl ?_ | refine G.condF rfl ?_ | refine sFa tb ?_ | refine sLd tb ?_ | refine sLa tb ?_ | refine sLen tb ?_ | refine sFd tb ?_ | refine sBd tb ?_ | refine sBa tb ?_); try (first | refine gl tb ?_ | refine gg tb ?_ | refine ll tb ?_ | refine lg tb ?_))
  refine sCall c22 (refPieces_ok s [38] w (by omega) (by simp)) ?_
  rintro q w1 ⟨hq, hx1⟩
  have hq := hq.sli
  have hpl : ∀ p ∈ piecesL s [38], p.length ≤ 10000000 := fun p hp => Nat.le_trans (piecesL_len hp) hs
  have hpc := piecesL_cnt s [38]
  generalize piecesL s [38] = ps at hq hpl hpc ⊢
  try (first | refine gl tb ?_ | refine gg tb ?_ | refine ll tb ?_ | refine lg tb ?_); repeat ((first | refine G.condT rfl ?_ | refine G.condF rfl ?_ | refine sFa tb ?_ | refine sLd tb ?_ | refine sLa tb ?_ | refine sLen tb ?_ | refine sFd tb ?_ | refine sBd tb ?_ | refine sBa tb ?_); try (first | refine gl tb ?_ | refine gg tb ?_ | refine ll tb ?_ | refine lg tb ?_))
  refine (G.loop (fun x : Nat × Value => [(4, none, x.2), (5, none, q), (6, none, .int .i64 x.1)]) (fun x W => Ext w1 W ∧ x.1 ≤ ps.length ∧ ∃ acc, LO W w1.heap.size x.2 acc ∧ acc.length ≤ x.1 ∧ parAt ps x.1 acc) (fun x => ps.length - x.1) (0, .slice none 0 0) (by repeat (first | exact Sub.nil _ | refine Sub.cons rfl ?_)) ⟨Ext.refl _, by simp, [], Owns.nil _ _ _ _, by simp, by unfold parAt; simp⟩ ?_)
  rintro ⟨k, v⟩ W ⟨hx, hk, acc, ho, hal, hp⟩
  simp only at hk ho hal hp ⊢
  have hqW := hq.to hx
  try (first | refine gl tb ?_ | refine gg tb ?_ | refine ll tb ?_ | refine lg tb ?_); repeat ((first | refine G.condT rfl ?_ | refine G.condF rfl ?_ | refine sFa tb ?_ | refine sLd tb ?_ | refine sLa tb ?_ | refine sLen tb ?_ | refine sFd tb ?_ | refine sBd tb ?_ | refine sBa tb ?_); try (first | refine gl tb ?_ | refine gg tb ?_ | refine ll tb ?_ | refine lg tb ?_))
  rw [List.length_map]
  try (first | refine gl tb ?_ | refine gg tb ?_ | refine ll tb ?_ | refine lg tb ?_); repeat ((first | refine G.condT rfl ?_ | refine G.condF rfl ?_ | refine sFa tb ?_ | refine sLd tb ?_ | refine sLa tb ?_ | refine sLen tb ?_ | refine sFd tb ?_ | refine sBd tb ?_ | refine sBa tb ?_); try (first | refine gl tb ?_ | refine gg tb ?_ | refine ll tb ?_ | refine lg tb ?_))
  first | refine G.condD rfl (fun hc => ?_) (fun hc => ?_) | refine G.condN rfl (fun hc => ?_) (fun hc => ?_) | refine G.cond rfl (fun hc => ?_) (fun hc => ?_)
  · have hlt : k < ps.length := by omega
    obtain ⟨p, hget, hmem, hgl⟩ := Strs.at hlt
    have hpz := hpl p hmem
    try (first | refine gl tb ?_ | refine gg tb ?_ | refine ll tb ?_ | refine lg tb ?_); repeat ((first | refine G.condT rfl ?_ | refine G.condF rfl ?_ | refine sFa tb ?_ | refine sLd tb ?_ | refine sLa tb ?_ | refine sLen tb ?_ | refine sFd tb ?_ | refine sBd tb ?_ | refine sIa tb k ?_); try (first | refine gl tb ?_ | refine gg tb ?_ | refine ll tb ?_ | refine lg tb ?_))
    first | refine G.condD rfl (fun hc => ?_) (fun hc => ?_) | refine G.condN rfl (fun hc => ?_) (fun hc => ?_) | refine G.cond rfl (fun hc => ?_) (fun hc => ?_)
    · subst hc
      try (first | refine gl tb ?_ | refine gg tb ?_ | refine ll tb ?_ | refine lg tb ?_); repeat ((first | refine G.condT rfl ?_ | refine G.condF rfl ?_ | refine sFa tb ?_ | refine sLd tb ?_ | refine sLa tb ?_ | refine sLen tb ?_ | refine sFd tb ?_ | refine sBd tb ?_ | refine sBa tb ?_); try (first | refine gl tb ?_ | refine gg tb ?_ | refine ll tb ?_ | refine lg tb ?_))
      refine sAd tb ?_
      try (first | refine gl tb ?_ | refine gg tb ?_ | refine ll tb ?_ | refine lg tb ?_); repeat ((first | refine G.condT rfl ?_ | refine G.condF rfl ?_ | refine sFa tb ?_ | refine sLd tb ?_ | refine sLa tb ?_ | refine sLen tb ?_ | refine sFd tb ?_ | refine sBd tb ?_ | refine sBa tb ?_); try (first | refine gl tb ?_ | refine gg tb ?_ | refine ll tb ?_ | refine lg tb ?_))
      exact G.lp (x := (k, v)) (k + 1, v) (by repeat (first | exact Sub.nil _ | refine Sub.cons rfl ?_)) ⟨hx, by simp only; omega, acc, ho, by simp only; omega, parAt_skip hp hgl⟩ (by simp only; omega)
    · have hpn : p ≠ [] := hc
      try (first | refine gl tb ?_ | refine gg tb ?_ | refine ll tb ?_ | refine lg tb ?_); repeat ((first | refine G.condT rfl ?_ | refine G.condF rfl ?_ | refine sFa tb ?_ | refine sLd tb ?_ | refine sLa tb ?_ | refine sLen tb ?_ | refine sFd tb ?_ | refine sBd tb ?_ | refine sIa tb k ?_); try (first | refine gl tb ?_ | refine gg tb ?_ | refine ll tb ?_ | refine lg tb ?_))
      refine sCall c39 (refIndex_ok p [61] W (by omega) (by simp) (by simp)) ?_
      rintro _ _ ⟨rfl, rfl⟩
      rename_i W
      obtain ⟨hc1, hc2⟩ := dec_cut p
      have hcl := cut_len p [61]
      try (first | refine gl tb ?_ | refine gg tb ?_ | refine ll tb ?_ | refine lg tb ?_); repeat ((first | refine G.condT rfl ?_ | refine G.condF rfl ?_ | refine sFa tb ?_ | refine sLd tb ?_ | refine sLa tb ?_ | refine sLen tb ?_ | refine sFd tb ?_ | refine sBd tb ?_ | refine sBa tb ?_); try (first | refine gl tb ?_ | refine gg tb ?_ | refine ll tb ?_ | refine lg tb ?_))
      refine G.join (fun x : List UInt8 × List UInt8 => [(4, none, v), (5, none, q), (6, none, .int .i64 k), (7, none, S x.1), (8, none, S x.2)]) (fun x w' => Ext W w' ∧ x.1 = (Lib.cut p [61]).1 ∧ x.2 = (Lib.cut p [61]).2.1) ?_ ?_
      · rintro ⟨a, b⟩ W1 ⟨hxa, rfl, rfl⟩
        simp only
        try (first | refine gl tb ?_ | refine gg tb ?_ | refine ll tb ?_ | refine lg tb ?_); repeat ((first | refine G.condT rfl ?_ | refine G.condF rfl ?_ | refine sFa tb ?_ | refine sLd tb ?_ | refine sLa tb ?_ | refine sLen tb ?_ | refine sFd tb ?_ | refine sBd tb ?_ | refine sBa tb ?_); try (first | refine gl tb ?_ | refine gg tb ?_ | refine ll tb ?_ | refine lg tb ?_))
        refine sCall c13 (refDecode_ok (Lib.cut p [61]).1 true W1 (by omega)) ?_
        rintro r1 W2 ⟨hr1, hx2⟩
        have fail : partP p = none → Ext w W2 → ∀ W3, Ext W2 W3 → Ext w W3 ∧ (match paramsL ps with
            | some ls => ∃ v, (Value.tuple ⟨[.slice none 0 0, .int .i64 8]⟩ : Value) = .tuple ⟨[v, .int .i64 0]⟩ ∧ LO W3 w.heap.size v ls
            | none => (Value.tuple ⟨[.slice none 0 0, .int .i64 8]⟩ : Value) = .tuple ⟨[.slice none 0 0, .int .i64 8]⟩) := by
          intro h1 h2 W3 h3
          rw [parAt_none hp hgl hpn h1]
          exact ⟨h2.trans h3, rfl⟩
        have hxw2 : Ext w W2 := hx1.trans (hx.trans (hxa.trans hx2))
        cases h1 : decP true (Lib.cut p [61]).1 with
        | none =>
          rw [h1] at hr1
          subst hr1
          have hpp : partP p = none := by unfold partP; rw [h1]
          try (first | refine gl tb ?_ | refine gg tb ?_ | refine ll tb ?_ | refine lg tb ?_); repeat ((first | refine G.condT rfl ?_ | refine G.condF rfl ?_ | refine sFa tb ?_ | refine sLd tb ?_ | refine sLa tb ?_ | refine sLen tb ?_ | refine sFd tb ?_ | refine sBd tb ?_ | refine sBa tb ?_); try (first | refine gl tb ?_ | refine gg tb ?_ | refine ll tb ?_ | refine lg tb ?_))
          refine sCall c13 (refDecode_ok (Lib.cut p [61]).2.1 true W2 (by omega)) ?_
          rintro r2 W3 ⟨hr2, hx3⟩
          cases h2 : decP true (Lib.cut p [61]).2.1 with
          | none =>
            rw [h2] at hr2
            subst hr2
            try (first | refine gl tb ?_ | refine gg tb ?_ | refine ll tb ?_ | refine lg tb ?_); repeat ((first | refine G.condT rfl ?_ | refine G.condF rfl ?_ | refine sFa tb ?_ | refine sLd tb ?_ | refine sLa tb ?_ | refine sLen tb ?_ | refine sFd tb ?_ | refine sBd tb ?_ | refine sBa tb ?_); try (first | refine gl tb ?_ | refine gg tb ?_ | refine ll tb ?_ | refine lg tb ?_))
            refine G.ret2 rfl rfl rfl rfl rfl ?_
            exact fail hpp hxw2 _ hx3
          | some b =>
            rw [h2] at hr2
            subst hr2
            try (first | refine gl tb ?_ | refine gg tb ?_ | refine ll tb ?_ | refine lg tb ?_); repeat ((first | refine G.condT rfl ?_ | refine G.condF rfl ?_ | refine sFa tb ?_ | refine sLd tb ?_ | refine sLa tb ?_ | refine sLen tb ?_ | refine sFd tb ?_ | refine sBd tb ?_ | refine sBa tb ?_); try (first | refine gl tb ?_ | refine gg tb ?_ | refine ll tb ?_ | refine lg tb ?_))
            refine G.ret2 rfl rfl rfl rfl rfl ?_
            exact fail hpp hxw2 _ hx3
        | some a =>
          rw [h1] at hr1
          subst hr1
          try (first | refine gl tb ?_ | refine gg tb ?_ | refine ll tb ?_ | refine lg tb ?_); repeat ((first | refine G.condT rfl ?_ | refine G.condF rfl ?_ | refine sFa tb ?_ | refine sLd tb ?_ | refine sLa tb ?_ | refine sLen tb ?_ | refine sFd tb ?_ | refine sBd tb ?_ | refine sBa tb ?_); try (first | refine gl tb ?_ | refine gg tb ?_ | refine ll tb ?_ | refine lg tb ?_))
          refine sCall c13 (refDecode_ok (Lib.cut p [61]).2.1 true W2 (by omega)) ?_
          rintro r2 W3 ⟨hr2, hx3⟩
          have hxw3 := hxw2.trans hx3
          cases h2 : decP true (Lib.cut p [61]).2.1 with
          | none =>
            rw [h2] at hr2
            subst hr2
            have hpp : partP p = none := by unfold partP; rw [h1, h2]
            try (first | refine gl tb ?_ | refine gg tb ?_ | refine ll tb ?_ | refine lg tb ?_); repeat ((first | refine G.condT rfl ?_ | refine G.condF rfl ?_ | refine sFa tb ?_ | refine sLd tb ?_ | refine sLa tb ?_ | refine sLen tb ?_ | refine sFd tb ?_ | refine sBd tb ?_ | refine sBa tb ?_); try (first | refine gl tb ?_ | refine gg tb ?_ | refine ll tb ?_ | refine lg tb ?_))
            refine G.ret2 rfl rfl rfl rfl rfl ?_
            exact fail hpp hxw2 _ hx3
          | some b =>
            rw [h2] at hr2
            subst hr2
            have hpp : partP p = some (a, b) := by unfold partP; rw [h1, h2]
            have hoW := ho.to (hxa.trans (hx2.trans hx3))
            try (first | refine gl tb ?_ | refine gg tb ?_ | refine ll tb ?_ | refine lg tb ?_); repeat ((first | refine G.condT rfl ?_ | refine G.condF rfl ?_ | refine sFa tb ?_ | refine sLd tb ?_ | refine sLa tb ?_ | refine sLen tb ?_ | refine sFd tb ?_ | refine sBd tb ?_ | refine sBa tb ?_); try (first | refine gl tb ?_ | refine gg tb ?_ | refine ll tb ?_ | refine lg tb ?_))
            refine sBs' tb [labC (a, b)] ?_ (hkl := labLen [_])
            intro v1 W4 ho1 hs1 hx4
            have hxw4 : Ext w1 W4 := hx.trans (hxa.trans (hx2.trans (hx3.trans hx4)))
            refine sApp tb (hoW.to hx4) ho1.sli ?_ (h1 := lab1 [_]) (hB := hxw4.size)
            intro v2 W5 ho2 hg2
            try (first | refine gl tb ?_ | refine gg tb ?_ | refine ll tb ?_ | refine lg tb ?_); repeat ((first | refine G.condT rfl ?_ | refine G.condF rfl ?_ | refine sFa tb ?_ | refine sLd tb ?_ | refine sLa tb ?_ | refine sLen tb ?_ | refine sFd tb ?_ | refine sBd tb ?_ | refine sBa tb ?_); try (first | refine gl tb ?_ | refine gg tb ?_ | refine ll tb ?_ | refine lg tb ?_))
            refine sAd tb ?_
            try (first | refine gl tb ?_ | refine gg tb ?_ | refine ll tb ?_ | refine lg tb ?_); repeat ((first | refine G.condT rfl ?_ | refine G.condF rfl ?_ | refine sFa tb ?_ | refine sLd tb ?_ | refine sLa tb ?_ | refine sLen tb ?_ | refine sFd tb ?_ | refine sBd tb ?_ | refine sBa tb ?_); try (first | refine gl tb ?_ | refine gg tb ?_ | refine ll tb ?_ | refine lg tb ?_))
            refine G.lp (x := (k, v)) (k + 1, v2) (by repeat (first | exact Sub.nil _ | refine Sub.cons rfl ?_)) ⟨?_, by simp only; omega, acc ++ [(a, b)], ?_, by simp only [List.length_append, List.length_cons, List.length_nil]; omega, parAt_add hp hgl hpn hpp⟩ (by simp only; omega)
            · exact hg2.below _ hxw4
            · unfold LO; rw [List.map_append]; exact ho2
      · first | refine G.condD rfl (fun hc => ?_) (fun hc => ?_) | refine G.condN rfl (fun hc => ?_) (fun hc => ?_) | refine G.cond rfl (fun hc => ?_) (fun hc => ?_)
        · rw [if_pos hc] at hc1 hc2
          obtain ⟨i, hi⟩ : ∃ i : Nat, Lib.index p [61] = i := ⟨(Lib.index p [61]).toNat, by omega⟩
          have hroom := Lib.index_room p [61] (by omega)
          simp only [List.length_cons, List.length_nil] at hroom
          rw [hi] at hc1 hc2 hroom ⊢
          rw [Int.toNat_natCast] at hc1 hc2
          try (first | refine gl tb ?_ | refine gg tb ?_ | refine ll tb ?_ | refine lg tb ?_); repeat ((first | refine G.condT rfl ?_ | refine G.condF rfl ?_ | refine sFa tb ?_ | refine sLd tb ?_ | refine sLa tb ?_ | refine sLen tb ?_ | refine sFd tb ?_ | refine sBd tb ?_ | refine sBa tb ?_); try (first | refine gl tb ?_ | refine gg tb ?_ | refine ll tb ?_ | refine lg tb ?_))
          refine G.regionM [(0, true), (1, true), (2, true), (3, true), (4, true), (5, true), (6, true), (7, true), (8, true), (9, true), (10, true), (11, true), (12, true), (13, true), (14, true)] (Ext W) (by kernel_rfl) (by kernel_rfl) rfl mixed (Ext.drew W) rfl ?_
          try (refine mm tb ?_); repeat ((first | refine dFa tb ?_ | refine dLd tb ?_ | refine dLa tb ?_ | refine dLen tb ?_ | refine dFd tb ?_ | refine dIa tb k ?_); try (refine mm tb ?_))
          refine GM.read (fun w' hS => Step.sliceSh tb i rfl (Op1.of rfl (by first | exact fun _ => rfl | exact fun h => h | exact fun h => bL h | exact fun h => bL (bL h) | exact fun h => bL (bL (bL h)))) (Op1.of rfl (by first | exact fun _ => rfl | exact fun h => h | exact fun h => bL h | exact fun h => bL (bL h) | exact fun h => bL (bL (bL h)))) rfl (fun _ => ⟨rfl, by omega⟩) rfl ⟨rfl, rfl⟩) rfl rfl ?_
          try (refine mm tb ?_); repeat ((first | refine dFa tb ?_ | refine dLd tb ?_ | refine dLa tb ?_ | refine dLen tb ?_ | refine dFd tb ?_ | refine dIa tb k ?_); try (refine mm tb ?_))
          refine dAd tb ?_
          refine GM.read (fun w' hS => Step.sliceSl tb (i + 1) rfl (Op1.of rfl (by first | exact fun _ => rfl | exact fun h => h | exact fun h => bL h | exact fun h => bL (bL h) | exact fun h => bL (bL (bL h)))) (Op1.of rfl (by first | exact fun _ => rfl | exact fun h => h | exact fun h => bL h | exact fun h => bL (bL h) | exact fun h => bL (bL (bL h)))) rfl (fun _ => ⟨by omega, by omega⟩) rfl ⟨rfl, rfl⟩) rfl rfl ?_
          try (refine mm tb ?_); repeat ((first | refine dFa tb ?_ | refine dLd tb ?_ | refine dLa tb ?_ | refine dLen tb ?_ | refine dFd tb ?_); try (refine mm tb ?_))
          refine GM.nil ?_
          exact G.met (p.take i, p.drop (i + 1)) (by repeat (first | exact Sub.nil _ | refine Sub.cons rfl ?_)) ⟨Ext.drew W, hc1.symm, hc2.symm⟩
        · rw [if_neg hc] at hc1 hc2
          try (first | refine gl tb ?_ | refine gg tb ?_ | refine ll tb ?_ | refine lg tb ?_); repeat ((first | refine G.condT rfl ?_ | refine G.condF rfl ?_ | refine sFa tb ?_ | refine sLd tb ?_ | refine sLa tb ?_ | refine sLen tb ?_ | refine sFd tb ?_ | refine sBd tb ?_ | refine sBa tb ?_); try (first | refine gl tb ?_ | refine gg tb ?_ | refine ll tb ?_ | refine lg tb ?_))
          exact G.met (p, []) (by repeat (first | exact Sub.nil _ | refine Sub.cons rfl ?_)) ⟨Ext.refl _, hc1.symm, hc2.symm⟩
  · have he := parAt_end hp (by omega)
    try (first | refine gl tb ?_ | refine gg tb ?_ | refine ll tb ?_ | refine lg tb ?_); repeat ((first | refine G.condT rfl ?_ | refine G.condF rfl ?_ | refine sFa tb ?_ | refine sLd tb ?_ | refine sLa tb ?_ | refine sLen tb ?_ | refine sFd tb ?_ | refine sBd tb ?_ | refine sBa tb ?_); try (first | refine gl tb ?_ | refine gg tb ?_ | refine ll tb ?_ | refine lg tb ?_))
    refine G.ret2 rfl rfl rfl rfl rfl ?_
    rw [he]
    exact ⟨hx1.trans hx, v, rfl, ho.mono hx1.size⟩
end Go.Proofs.YtlaingmhdgpkdaaDoor
