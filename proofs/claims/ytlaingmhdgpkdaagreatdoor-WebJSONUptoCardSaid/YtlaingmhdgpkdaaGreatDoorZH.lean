/- web.Params, walked. -/
import Derived.Test.YtlaingmhdgpkdaaGreatDoorZG
open Go Go.Vg Go.RowKit Go.Proofs Go.Proofs.YtlaingmhdgpkdaaGreatDoor
namespace Go.Proofs.YtlaingmhdgpkdaaGreatDoor
set_option linter.unusedSimpArgs false

theorem params_ok (s : List UInt8) (w : World) (hs : s.length ≤ 10000000) (hM : MaxC w) :
    Ret Tryz.prog 57 ⟨[S s]⟩ w fun r w' => Ext w w' ∧ (match paramsL (piecesL s [38]) with
      | some ls => ∃ v, r = .tuple ⟨[v, .int .i64 0]⟩ ∧ LO w' w.heap.size v ls
      | none => r = .tuple ⟨[.slice none 0 0, .int .i64 8]⟩) := by
  refine ret_of_GM Tryz.func57 rfl Tryz.ntmps57 rfl ?_
  simp only [argEnv]
  try (first | refine gl tb ?_ | refine gg tb ?_ | refine ll tb ?_ | refine lg tb ?_); repeat ((first | refine G.condT rfl ?_ | refine G.condF rfl ?_ | refine sFa tb ?_ | refine sLd tb ?_ | refine sLa tb ?_ | refine sLen tb ?_ | refine sFd tb ?_ | refine sBd tb ?_ | refine sBa tb ?_); try (first | refine gl tb ?_ | refine gg tb ?_ | refine ll tb ?_ | refine lg tb ?_))
  refine sAl tb ?_
  intro w1 hb1 hs1 hx1
  refine sAl tb ?_
  intro w2 hb2 hs2 hx2
  try (first | refine gl tb ?_ | refine gg tb ?_ | refine ll tb ?_ | refine lg tb ?_); repeat ((first | refine G.condT rfl ?_ | refine G.condF rfl ?_ | refine sFa tb ?_ | refine sLd tb ?_ | refine sLa tb ?_ | refine sLen tb ?_ | refine sFd tb ?_ | refine sBd tb ?_ | refine sBa tb ?_); try (first | refine gl tb ?_ | refine gg tb ?_ | refine ll tb ?_ | refine lg tb ?_))
  refine sAl tb ?_
  intro w3 hb3 hs3 hx3
  have hx03 := (hx1.trans hx2).trans hx3
  try (first | refine gl tb ?_ | refine gg tb ?_ | refine ll tb ?_ | refine lg tb ?_); repeat ((first | refine G.condT rfl ?_ | refine G.condF rfl ?_ | refine sFa tb ?_ | refine sLd tb ?_ | refine sLa tb ?_ | refine sLen tb ?_ | refine sFd tb ?_ | refine sBd tb ?_ | refine sBa tb ?_); try (first | refine gl tb ?_ | refine gg tb ?_ | refine ll tb ?_ | refine lg tb ?_))
  refine sCall c100 (pieces_ok s [38] w3) ?_
  rintro r w4 ⟨q1, q2, rfl, hq1, hq2, hbq1, hbq2, hx4⟩
  have hx04 := hx03.trans hx4
  have hb1 := ((hb1.to hx2).to hx3).to hx4
  have hb2 := (hb2.to hx3).to hx4
  have hb3 := hb3.to hx4
  have hpl : ∀ p ∈ piecesL s [38], p.length ≤ 10000000 := fun p hp => Nat.le_trans (piecesL_len hp) hs
  have hpc := piecesL_cnt s [38]
  have hM4 := hM.to hx04
  obtain ⟨B, hB⟩ : ∃ B, B = w4.heap.size := ⟨_, rfl⟩
  have hB0 : w.heap.size ≤ B := by rw [hB]; exact hx04.size
  have hB1 := hb1.lt
  have hB2 := hb2.lt
  have hB3 := hb3.lt
  have hBq1 := hbq1.lt
  have hBq2 := hbq2.lt
  rw [← hB] at hB1 hB2 hB3 hBq1 hBq2
  try (first | refine gl tb ?_ | refine gg tb ?_ | refine ll tb ?_ | refine lg tb ?_); repeat ((first | refine G.condT rfl ?_ | refine G.condF rfl ?_ | refine sFa tb ?_ | refine sLd tb ?_ | refine sLa tb ?_ | refine sLen tb ?_ | refine sFd tb ?_ | refine sBd tb ?_ | refine sBa tb ?_); try (first | refine gl tb ?_ | refine gg tb ?_ | refine ll tb ?_ | refine lg tb ?_))
  refine G.rangeFunc rfl rfl c133 (pieces1_ok s [38] q1 q2 (by omega)) rfl rfl (by intro x hx; obtain ⟨y, _, rfl⟩ := List.mem_map.1 hx; rfl)
    (fun i W => Ext w W ∧ B ≤ W.heap.size ∧ Bx W q1 [S s] ∧ Bx W q2 [S [38]] ∧ Bx W w.heap.size [.slice none 0 0] ∧ Bx W w1.heap.size [.int .i64 0] ∧ ∃ v acc, Bx W w2.heap.size [v] ∧ LO W B v acc ∧ acc.length ≤ i ∧ parAt (piecesL s [38]) i acc)
    (fun c W => c = .ret ∧ Bx W w.heap.size [.slice none 0 0] ∧ Bx W w1.heap.size [.int .i64 8] ∧ paramsL (piecesL s [38]) = none ∧ Ext w W) ?_ ?_ ?_ ?_ ?_ ?_ ?_
  · rintro l hl i W W' ⟨h1, h2, h3, h4, h5, h6, v, acc, h7, h8, h9⟩ hk
    exact ⟨Below.kept h1 hk (by omega) h1.size, by have := hk.2.size; omega, h3.kept hk, h4.kept hk, h5.kept hk, h6.kept hk, v, acc, h7.kept hk, h8.kept hk, h9⟩
  · rintro l hl c W W' ⟨h1, h2, h3, h4, h5⟩ hk
    exact ⟨h1, h2.kept hk, h3.kept hk, h4, Below.kept h5 hk (by omega) h5.size⟩
  · rintro i W ⟨h1, h2, h3, h4, _⟩
    exact ⟨h3.cells.one, h4.cells.one, hM.to h1⟩
  · exact fun w' h => ⟨hx04.trans h, by rw [hB]; exact h.size, hbq1.to h, hbq2.to h, hb1.to h, hb2.to h, _, [], hb3.to h, Owns.nil _ _ _ _, by simp, by unfold parAt; simp⟩
  · rintro l r rc i x W hl hlr hxi ⟨h1, h2, h3, h4, h5, h6, v, acc, h7, h8, h9, h10⟩ hLp
    simp only [List.getElem?_map, Option.map_eq_some_iff] at hxi
    obtain ⟨p, hpg, rfl⟩ := hxi
    try (first | refine gl tb ?_ | refine gg tb ?_ | refine ll tb ?_ | refine lg tb ?_); repeat ((first | refine G.condT rfl ?_ | refine G.condF rfl ?_ | refine sFa tb ?_ | refine sLd tb ?_ | refine sLa tb ?_ | refine sLen tb ?_ | refine sFd tb ?_ | refine sBd tb ?_ | refine sBa tb ?_); try (first | refine gl tb ?_ | refine gg tb ?_ | refine ll tb ?_ | refine lg tb ?_))
    refine G.beg rfl rfl rfl hLp hlr ?_
    intro W2 hk hLp2 hsz
    have h1 : Ext w W2 := Below.kept h1 hk (by omega) h1.size
    have h3 := h3.kept hk
    have h4 := h4.kept hk
    have h5 := h5.kept hk
    have h6 := h6.kept hk
    have h7 := h7.kept hk
    have h8 := h8.kept hk
    have h2 : B ≤ W2.heap.size := by omega
    clear hk hLp
    have hpz := hpl p (List.mem_of_getElem? hpg)
    have hlt : i < (piecesL s [38]).length := (List.getElem?_eq_some_iff.1 hpg).1
    try (first | refine gl tb ?_ | refine gg tb ?_ | refine ll tb ?_ | refine lg tb ?_); repeat ((first | refine G.condT rfl ?_ | refine G.condF rfl ?_ | refine sFa tb ?_ | refine sLd tb ?_ | refine sLa tb ?_ | refine sLen tb ?_ | refine sFd tb ?_ | refine sBd tb ?_ | refine sBa tb ?_); try (first | refine gl tb ?_ | refine gg tb ?_ | refine ll tb ?_ | refine lg tb ?_))
    first | refine G.condD rfl (fun hc => ?_) (fun hc => ?_) | refine G.condN rfl (fun hc => ?_) (fun hc => ?_) | refine G.cond rfl (fun hc => ?_) (fun hc => ?_)
    · subst hc
      try (first | refine gl tb ?_ | refine gg tb ?_ | refine ll tb ?_ | refine lg tb ?_); repeat ((first | refine G.condT rfl ?_ | refine G.condF rfl ?_ | refine sFa tb ?_ | refine sLd tb ?_ | refine sLa tb ?_ | refine sLen tb ?_ | refine sFd tb ?_ | refine sBd tb ?_ | refine sBa tb ?_); try (first | refine gl tb ?_ | refine gg tb ?_ | refine ll tb ?_ | refine lg tb ?_))
      exact G.nil fun t _ => ⟨hLp2, h1, h2, h3, h4, h5, h6, v, acc, h7, h8, by omega, parAt_skip h10 hpg⟩
    · have hpn : p ≠ [] := hc
      have hcl := cut_len p [61]
      try (first | refine gl tb ?_ | refine gg tb ?_ | refine ll tb ?_ | refine lg tb ?_); repeat ((first | refine G.condT rfl ?_ | refine G.condF rfl ?_ | refine sFa tb ?_ | refine sLd tb ?_ | refine sLa tb ?_ | refine sLen tb ?_ | refine sFd tb ?_ | refine sBd tb ?_ | refine sBa tb ?_); try (first | refine gl tb ?_ | refine gg tb ?_ | refine ll tb ?_ | refine lg tb ?_))
      refine sCall c51 (cut_ok p [61] W2 (by omega) (hM.to h1)) ?_
      rintro _ W3 ⟨rfl, hx3⟩
      try (first | refine gl tb ?_ | refine gg tb ?_ | refine ll tb ?_ | refine lg tb ?_); repeat ((first | refine G.condT rfl ?_ | refine G.condF rfl ?_ | refine sFa tb ?_ | refine sLd tb ?_ | refine sLa tb ?_ | refine sLen tb ?_ | refine sFd tb ?_ | refine sBd tb ?_ | refine sBa tb ?_); try (first | refine gl tb ?_ | refine gg tb ?_ | refine ll tb ?_ | refine lg tb ?_))
      refine sCall c56 (decode_ok (Lib.cut p [61]).1 true W3 (by omega)) ?_
      rintro r1 W4 ⟨hr1, hx4⟩
      have hx34 := hx3.trans hx4
      cases hd1 : decP true (Lib.cut p [61]).1 with
      | none =>
        rw [hd1] at hr1
        subst hr1
        have hpp : partP p = none := by unfold partP; rw [hd1]
        have hno := parAt_none h10 hpg hpn hpp
        try (first | refine gl tb ?_ | refine gg tb ?_ | refine ll tb ?_ | refine lg tb ?_); repeat ((first | refine G.condT rfl ?_ | refine G.condF rfl ?_ | refine sFa tb ?_ | refine sLd tb ?_ | refine sLa tb ?_ | refine sLen tb ?_ | refine sFd tb ?_ | refine sBd tb ?_ | refine sBa tb ?_); try (first | refine gl tb ?_ | refine gg tb ?_ | refine ll tb ?_ | refine lg tb ?_))
        refine sCall c56 (decode_ok (Lib.cut p [61]).2.1 true W4 (by omega)) ?_
        rintro r2 W5 ⟨hr2, hx5⟩
        have hx25 := hx34.trans hx5
        have hr2' : ∃ o e, r2 = .tuple ⟨[S o, .int .i64 e]⟩ := by
          cases hd2 : decP true (Lib.cut p [61]).2.1 with
          | none => rw [hd2] at hr2; exact ⟨_, _, hr2⟩
          | some b => rw [hd2] at hr2; exact ⟨_, _, hr2⟩
        obtain ⟨o, e, rfl⟩ := hr2'
        clear hr2
        try (first | refine gl tb ?_ | refine gg tb ?_ | refine ll tb ?_ | refine lg tb ?_); repeat ((first | refine G.condT rfl ?_ | refine G.condF rfl ?_ | refine sFa tb ?_ | refine sLd tb ?_ | refine sLa tb ?_ | refine sLen tb ?_ | refine sFd tb ?_ | refine sBd tb ?_ | refine sBa tb ?_); try (first | refine gl tb ?_ | refine gg tb ?_ | refine ll tb ?_ | refine lg tb ?_))
        refine sSt tb ?_ (hb := h5.to hx25)
        intro W6 hb6 hw6
        refine sSt tb ?_ (hb := (h6.to hx25).wr hw6 (by omega))
        intro W7 hb7 hw7
        try (first | refine gl tb ?_ | refine gg tb ?_ | refine ll tb ?_ | refine lg tb ?_); repeat ((first | refine G.condT rfl ?_ | refine G.condF rfl ?_ | refine sFa tb ?_ | refine sLd tb ?_ | refine sLa tb ?_ | refine sLen tb ?_ | refine sFd tb ?_ | refine sBd tb ?_ | refine sBa tb ?_); try (first | refine gl tb ?_ | refine gg tb ?_ | refine ll tb ?_ | refine lg tb ?_))
        refine G.ret fun t _ => ⟨((hLp2.to hx25).wr (h5.to hx25) hw6).wr ((h6.to hx25).wr hw6 (by omega)) hw7, rfl, hb6.wr hw7 (by omega), hb7, hno, ?_⟩
        exact ((h1.trans hx25).wr hw6 (Nat.le_refl _)).wr hw7 (by omega)
      | some a =>
        rw [hd1] at hr1
        subst hr1
        try (first | refine gl tb ?_ | refine gg tb ?_ | refine ll tb ?_ | refine lg tb ?_); repeat ((first | refine G.condT rfl ?_ | refine G.condF rfl ?_ | refine sFa tb ?_ | refine sLd tb ?_ | refine sLa tb ?_ | refine sLen tb ?_ | refine sFd tb ?_ | refine sBd tb ?_ | refine sBa tb ?_); try (first | refine gl tb ?_ | refine gg tb ?_ | refine ll tb ?_ | refine lg tb ?_))
        refine sCall c56 (decode_ok (Lib.cut p [61]).2.1 true W4 (by omega)) ?_
        rintro r2 W5 ⟨hr2, hx5⟩
        have hx25 := hx34.trans hx5
        cases hd2 : decP true (Lib.cut p [61]).2.1 with
        | none =>
          rw [hd2] at hr2
          subst hr2
          have hpp : partP p = none := by unfold partP; rw [hd1, hd2]
          have hno := parAt_none h10 hpg hpn hpp
          try (first | refine gl tb ?_ | refine gg tb ?_ | refine ll tb ?_ | refine lg tb ?_); repeat ((first | refine G.condT rfl ?_ | refine G.condF rfl ?_ | refine sFa tb ?_ | refine sLd tb ?_ | refine sLa tb ?_ | refine sLen tb ?_ | refine sFd tb ?_ | refine sBd tb ?_ | refine sBa tb ?_); try (first | refine gl tb ?_ | refine gg tb ?_ | refine ll tb ?_ | refine lg tb ?_))
          refine sSt tb ?_ (hb := h5.to hx25)
          intro W6 hb6 hw6
          refine sSt tb ?_ (hb := (h6.to hx25).wr hw6 (by omega))
          intro W7 hb7 hw7
          try (first | refine gl tb ?_ | refine gg tb ?_ | refine ll tb ?_ | refine lg tb ?_); repeat ((first | refine G.condT rfl ?_ | refine G.condF rfl ?_ | refine sFa tb ?_ | refine sLd tb ?_ | refine sLa tb ?_ | refine sLen tb ?_ | refine sFd tb ?_ | refine sBd tb ?_ | refine sBa tb ?_); try (first | refine gl tb ?_ | refine gg tb ?_ | refine ll tb ?_ | refine lg tb ?_))
          refine G.ret fun t _ => ⟨((hLp2.to hx25).wr (h5.to hx25) hw6).wr ((h6.to hx25).wr hw6 (by omega)) hw7, rfl, hb6.wr hw7 (by omega), hb7, hno, ?_⟩
          exact ((h1.trans hx25).wr hw6 (Nat.le_refl _)).wr hw7 (by omega)
        | some b =>
          rw [hd2] at hr2
          subst hr2
          have hpp : partP p = some (a, b) := by unfold partP; rw [hd1, hd2]
          have h7 := h7.to hx25
          have h8 := h8.to hx25
          try (first | refine gl tb ?_ | refine gg tb ?_ | refine ll tb ?_ | refine lg tb ?_); repeat ((first | refine G.condT rfl ?_ | refine G.condF rfl ?_ | refine sFa tb ?_ | refine sLd tb ?_ | refine sLa tb ?_ | refine sLen tb ?_ | refine sFd tb ?_ | refine sBd tb ?_ | refine sBa tb ?_); try (first | refine gl tb ?_ | refine gg tb ?_ | refine ll tb ?_ | refine lg tb ?_))
          refine sBs' tb [labC (a, b)] ?_ (hkl := labLen [_])
          intro v1 W6 ho1 hs1 hx6
          have hx26 := hx25.trans hx6
          have hz6 := hx26.size
          have h86 := h8.to hx6
          have h1' : Ext w W6 := h1.trans hx26
          refine sApp tb h86 ho1.sli ?_ (h1 := lab1 [_]) (hB := by omega)
          intro v2 W7 ho2 hg7
          have hz7 := hg7.size
          have h7' := (h7.to hx6).grew hg7 (h86.ne hB3)
          refine sSt tb ?_ (hb := h7') (hv := ho2.cells) (h1 := ho2.sli.one)
          intro W8 hb8 hw8
          have hz8 := hw8.size
          try (first | refine gl tb ?_ | refine gg tb ?_ | refine ll tb ?_ | refine lg tb ?_); repeat ((first | refine G.condT rfl ?_ | refine G.condF rfl ?_ | refine sFa tb ?_ | refine sLd tb ?_ | refine sLa tb ?_ | refine sLen tb ?_ | refine sFd tb ?_ | refine sBd tb ?_ | refine sBa tb ?_); try (first | refine gl tb ?_ | refine gg tb ?_ | refine ll tb ?_ | refine lg tb ?_))
          have hx67 : Below w.heap.size W6 W7 := (hg7.below _ (Below.refl _ _)).mono hB0
          have hx7 : Ext w W7 := Below.trans (B := w.heap.size) h1' hx67
          refine G.nil fun t _ => ⟨(h86.lp (hLp2.to hx26) hg7).wr h7' hw8, Below.wr hx7 hw8 (by omega), by omega,
            ((h3.to hx26).grew hg7 (h86.ne hBq1)).wr hw8 (by omega), ((h4.to hx26).grew hg7 (h86.ne hBq2)).wr hw8 (by omega), ((h5.to hx26).grew hg7 (h86.ne hB1)).wr hw8 (by omega), ((h6.to hx26).grew hg7 (h86.ne hB2)).wr hw8 (by omega),
            v2, acc ++ [(a, b)], hb8, ?_, by simp only [List.length_append, List.length_cons, List.length_nil]; omega, parAt_add h10 hpg hpn hpp⟩
          unfold LO; rw [List.map_append]; exact ho2.wr hw8 hB3
  · rintro r W hr ⟨h1, h2, h3, h4, h5, h6, v, acc, h7, h8, h9, h10⟩ hD
    rw [List.length_map] at h10
    have he := parAt_end h10 (Nat.le_refl _)
    rw [he]
    try (first | refine gl tb ?_ | refine gg tb ?_ | refine ll tb ?_ | refine lg tb ?_); repeat ((first | refine G.condT rfl ?_ | refine G.condF rfl ?_ | refine sFa tb ?_ | refine sLd tb ?_ | refine sLa tb ?_ | refine sLen tb ?_ | refine sFd tb ?_ | refine sBd tb ?_ | refine sBa tb ?_); try (first | refine gl tb ?_ | refine gg tb ?_ | refine ll tb ?_ | refine lg tb ?_))
    refine sSt tb ?_ (hb := h5) (hv := h8.cells) (h1 := h8.sli.one)
    intro W1 hb5 hw5
    refine sSt tb ?_ (hb := h6.wr hw5 (by omega))
    intro W2 hb6 hw6
    have hD1 := hD.wr h5 hw5
    have hD2 := hD1.wr (h6.wr hw5 (by omega)) hw6
    have h82 : LO W2 B v acc := Owns.wr (Owns.wr h8 hw5 hB1) hw6 hB2
    try (first | refine gl tb ?_ | refine gg tb ?_ | refine ll tb ?_ | refine lg tb ?_); repeat ((first | refine G.condT rfl ?_ | refine G.condF rfl ?_ | refine sFa tb ?_ | refine sLd tb ?_ | refine sLa tb ?_ | refine sLen tb ?_ | refine sFd tb ?_ | refine sBd tb ?_ | refine sBa tb ?_); try (first | refine gl tb ?_ | refine gg tb ?_ | refine ll tb ?_ | refine lg tb ?_))
    refine G.retM rfl rfl hD2 fun t ht => ⟨_, resC2 ht rfl rfl rfl (tb.ok _ _ rfl) rfl (tb.ok _ _ rfl) rfl ((hb5.wr hw6 (by omega)).out hD2).cells.one (hb6.out hD2).cells.one, ?_, v, rfl, ?_⟩
    · exact ((h1.wr hw5 (Nat.le_refl _)).wr hw6 (by omega)).wr (outW_wr r _) (by omega)
    · exact (Owns.wr2 h82 (outW_wr r _) (hD2.neO h82)).mono hB0
  · rintro r c W hr ⟨rfl, h2, h3, h4, h5⟩ hD
    rw [h4]
    refine G.retM rfl rfl hD fun t ht => ⟨_, resC2 ht rfl rfl rfl (tb.ok _ _ rfl) rfl (tb.ok _ _ rfl) rfl (h2.out hD).cells.one (h3.out hD).cells.one, ?_, rfl⟩
    exact h5.wr (outW_wr r _) (by omega)
end Go.Proofs.YtlaingmhdgpkdaaGreatDoor
