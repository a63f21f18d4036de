/- web.Decode, walked. -/
import Derived.Test.YtlaingmhdgpkdaaGreatDoorZA
open Go Go.Vg Go.RowKit Go.Proofs Go.Proofs.YtlaingmhdgpkdaaGreatDoor
namespace Go.Proofs.YtlaingmhdgpkdaaGreatDoor
set_option linter.unusedSimpArgs false

abbrev Bld (w : World) (B b : Nat) (l : List UInt8) : Prop := Lib.IsBuilder 93 5 B b (Lib.byteCells l) w
theorem wbyte_ok (B b : Nat) (l : List UInt8) (c : UInt8) (w : World) (h : Bld w B b l) (hl : l.length + 1 ≤ 140737488355328) (hB : B ≤ w.heap.size) :
    Ret Tryz.prog 99 ⟨[ptr b, U c]⟩ w fun r w' => r = .nilIface ∧ Bld w' B b (l ++ [c]) ∧ Below B w w' :=
  Calls.mono (Any.Builder_WriteByte Tryz.lays167 Tryz.Builder_Extra_159 B b (Lib.byteCells l) c.toNat w h (by rw [Lib.byteCells_length]; exact hl) hB) fun _ _ ⟨he, h1, h2⟩ =>
    ⟨_, he, rfl, .inr (by rw [Lib.byteCells_append]; exact h1), h2⟩
theorem bstr_ok (B b : Nat) (l : List UInt8) (w : World) (h : Bld w B b l) (hB : B ≤ w.heap.size) :
    Ret Tryz.prog 65 ⟨[ptr b]⟩ w fun r w' => r = S l ∧ Below B w w' :=
  Calls.mono (Any.Builder_String_any Tryz.lays169 Tryz.Builder_Extra_169 B b l w h hB) fun _ _ ⟨he, h2⟩ => ⟨_, he, rfl, h2⟩
theorem Bld.ext {w w' : World} {B b : Nat} {l : List UInt8} (h : Bld w B b l) (hx : Ext w w') : Bld w' B b l := by
  have key : ∀ p, Lib.BuilderAt 93 5 B b p (Lib.byteCells l) w → Lib.BuilderAt 93 5 B b p (Lib.byteCells l) w' := by
    rintro p ⟨hB, v, hb, ⟨hl, hr⟩, hn⟩
    refine ⟨hB, v, by rw [hx.block b (Array.getElem?_eq_some_iff.1 hb).1]; exact hb, ⟨hl, ?_⟩, hn⟩
    rcases hr with h | ⟨g, cap, cur, h1, h2, h3, h4⟩
    · exact .inl h
    · exact .inr ⟨g, cap, cur, h1, h2, by rw [hx.block g (Array.getElem?_eq_some_iff.1 h3).1]; exact h3, h4⟩
  rcases h with h | h
  · exact .inl (key _ h)
  · exact .inr (key _ h)
theorem base16_ext (c : UInt8) (w : World) : Ret Tryz.prog 98 ⟨[U c]⟩ w fun r w' => r = .int .i64 (hexI c) ∧ Ext w w' :=
  Ret.mono (base16_ok c w) fun _ _ ⟨h1, h2⟩ => ⟨h1, by rw [h2]; exact Ext.refl _⟩
/-- P17.2: a text decoded -/
def decP (plus : Bool) : List UInt8 → Option (List UInt8)
  | [] => some []
  | c :: r => if ((c.toNat : Int) = 43 ∧ plus = true) then (decP plus r).map (32 :: ·)
    else if (c.toNat : Int) = 37 then match r with
      | a :: b :: r' => if hexI a < 0 ∨ hexI b < 0 then none else (decP plus r').map (byI (16 * hexI a + hexI b) :: ·)
      | _ => none
    else (decP plus r).map (c :: ·)
theorem decP_cons (plus : Bool) (c : UInt8) (r : List UInt8) : decP plus (c :: r) = if ((c.toNat : Int) = 43 ∧ plus = true) then (decP plus r).map (32 :: ·)
    else if (c.toNat : Int) = 37 then match r with
      | a :: b :: r' => if hexI a < 0 ∨ hexI b < 0 then none else (decP plus r').map (byI (16 * hexI a + hexI b) :: ·)
      | _ => none
    else (decP plus r).map (c :: ·) := by
  rcases r with _ | ⟨a, _ | ⟨b, r⟩⟩ <;> simp only [decP]
theorem drop_at {s : List UInt8} {k : Nat} (h : k < s.length) : s.drop k = s.getD k 0 :: s.drop (k + 1) := by
  rw [List.drop_eq_getElem_cons h]; simp [List.getD, h]

/-- what is decoded so far, and what is left -/
def decAt (plus : Bool) (s : List UInt8) (k : Nat) (acc : List UInt8) : Prop := (decP plus (s.drop k)).map (acc ++ ·) = decP plus s
theorem decAt_step {plus : Bool} {s acc : List UInt8} {k k' : Nat} {c : UInt8} (h : decAt plus s k acc) (he : decP plus (s.drop k) = (decP plus (s.drop k')).map (c :: ·)) : decAt plus s k' (acc ++ [c]) := by
  unfold decAt at h ⊢
  rw [← h, he]
  cases decP plus (s.drop k') <;> simp
theorem decAt_none {plus : Bool} {s acc : List UInt8} {k : Nat} (h : decAt plus s k acc) (he : decP plus (s.drop k) = none) : decP plus s = none := by
  unfold decAt at h
  rw [← h, he]; rfl

theorem decode_ok (s : List UInt8) (plus : Bool) (w : World) (hs : s.length ≤ 100000000) :
    Ret Tryz.prog 56 ⟨[S s, .bool plus]⟩ w fun r w' => r = (match decP plus s with
      | some o => .tuple ⟨[S o, .int .i64 0]⟩
      | none => .tuple ⟨[S [], .int .i64 8]⟩) ∧ Ext w w' := by
  refine ret_of_G Tryz.func56 rfl Tryz.ntmps56 rfl ?_
  simp only [argEnv]
  try (first | refine gl tb ?_ | refine gg tb ?_ | refine ll tb ?_ | refine lg tb ?_); repeat ((first | refine G.condT rfl ?_ | refine G.condF rfl ?_ | refine sFa tb ?_ | refine sLd tb ?_ | refine sLa tb ?_ | refine sLen tb ?_ | refine sFd tb ?_ | refine sBd tb ?_ | refine sBa tb ?_); try (first | refine gl tb ?_ | refine gg tb ?_ | refine ll tb ?_ | refine lg tb ?_))
  refine GL.cons (Step.allocE tb rfl rfl rfl rfl ?_)
  have hx1 : Ext w (w.alloc (.cells ⟨[.pointer none, .slice none 0 0]⟩ 93)) := Ext.alloc _ _
  have hb1 : Bld (w.alloc (.cells ⟨[.pointer none, .slice none 0 0]⟩ 93)) w.heap.size w.heap.size [] :=
    .inl ⟨Nat.le_refl _, _, heap_alloc_new _ _, World.ownsRow_nil _ _ _ _, by simp [Value.ownBlock]⟩
  generalize w.alloc (.cells ⟨[.pointer none, .slice none 0 0]⟩ 93) = w1 at hx1 hb1 ⊢
  try (first | refine gl tb ?_ | refine gg tb ?_ | refine ll tb ?_ | refine lg tb ?_); repeat ((first | refine G.condT rfl ?_ | refine G.condF rfl ?_ | refine sFa tb ?_ | refine sLd tb ?_ | refine sLa tb ?_ | refine sLen tb ?_ | refine sFd tb ?_ | refine sBd tb ?_ | refine sBa tb ?_); try (first | refine gl tb ?_ | refine gg tb ?_ | refine ll tb ?_ | refine lg tb ?_))
  refine (G.loop (fun k : Nat => [(0, none, S s), (1, none, .bool plus), (6, none, ptr w.heap.size), (7, none, .int .i64 k)]) (fun k W => Ext w W ∧ k ≤ s.length ∧ ∃ acc, Bld W w.heap.size w.heap.size acc ∧ acc.length ≤ k ∧ decAt plus s k acc) (fun k => s.length - k) 0 (by repeat (first | exact Sub.nil _ | refine Sub.cons rfl ?_)) ⟨hx1, by omega, [], hb1, by simp, by unfold decAt; simp⟩ ?_)
  clear hx1 hb1
  rintro k W ⟨hx, hk, acc, hb, hal, hd⟩
  try (first | refine gl tb ?_ | refine gg tb ?_ | refine ll tb ?_ | refine lg tb ?_); repeat ((first | refine G.condT rfl ?_ | refine G.condF rfl ?_ | refine sFa tb ?_ | refine sLd tb ?_ | refine sLa tb ?_ | refine sLen tb ?_ | refine sFd tb ?_ | refine sBd tb ?_ | refine sBa tb ?_); try (first | refine gl tb ?_ | refine gg tb ?_ | refine ll tb ?_ | refine lg tb ?_))
  first | refine G.condD rfl (fun hc => ?_) (fun hc => ?_) | refine G.condN rfl (fun hc => ?_) (fun hc => ?_) | refine G.cond rfl (fun hc => ?_) (fun hc => ?_)
  · have hlt : k < s.length := by omega
    have hdr := drop_at hlt
    try (first | refine gl tb ?_ | refine gg tb ?_ | refine ll tb ?_ | refine lg tb ?_); repeat ((first | refine G.condT rfl ?_ | refine G.condF rfl ?_ | refine sFa tb ?_ | refine sLd tb ?_ | refine sLa tb ?_ | refine sLen tb ?_ | refine sFd tb ?_ | refine sBd tb ?_ | refine sBa tb ?_); try (first | refine gl tb ?_ | refine gg tb ?_ | refine ll tb ?_ | refine lg tb ?_))
    refine sBs tb k ?_
    generalize s.getD k 0 = c at hdr ⊢
    try (first | refine gl tb ?_ | refine gg tb ?_ | refine ll tb ?_ | refine lg tb ?_); repeat ((first | refine G.condT rfl ?_ | refine G.condF rfl ?_ | refine sFa tb ?_ | refine sLd tb ?_ | refine sLa tb ?_ | refine sLen tb ?_ | refine sFd tb ?_ | refine sBd tb ?_ | refine sBa tb ?_); try (first | refine gl tb ?_ | refine gg tb ?_ | refine ll tb ?_ | refine lg tb ?_))
    refine G.join (fun x : Nat × UInt8 => [(0, none, S s), (1, none, .bool plus), (6, none, ptr w.heap.size), (7, none, .int .i64 x.1), (8, none, U x.2)]) (fun x w' => Ext w w' ∧ Bld w' w.heap.size w.heap.size acc ∧ k ≤ x.1 ∧ x.1 < s.length ∧ decP plus (s.drop k) = (decP plus (s.drop (x.1 + 1))).map (x.2 :: ·)) ?_ ?_
    · rintro ⟨j, c'⟩ W1 ⟨hx1, hb1, hkj, hj, he⟩
      simp only at hkj hj he ⊢
      try (first | refine gl tb ?_ | refine gg tb ?_ | refine ll tb ?_ | refine lg tb ?_); repeat ((first | refine G.condT rfl ?_ | refine G.condF rfl ?_ | refine sFa tb ?_ | refine sLd tb ?_ | refine sLa tb ?_ | refine sLen tb ?_ | refine sFd tb ?_ | refine sBd tb ?_ | refine sBa tb ?_); try (first | refine gl tb ?_ | refine gg tb ?_ | refine ll tb ?_ | refine lg tb ?_))
      refine sCall c99 (wbyte_ok w.heap.size w.heap.size acc c' W1 hb1 (by omega) hx1.size) ?_
      rintro _ W2 ⟨rfl, hb2, hx2⟩
      have hx2 : Ext w W2 := Below.trans (B := w.heap.size) hx1 hx2
      try (first | refine gl tb ?_ | refine gg tb ?_ | refine ll tb ?_ | refine lg tb ?_); repeat ((first | refine G.condT rfl ?_ | refine G.condF rfl ?_ | refine sFa tb ?_ | refine sLd tb ?_ | refine sLa tb ?_ | refine sLen tb ?_ | refine sFd tb ?_ | refine sBd tb ?_ | refine sBa tb ?_); try (first | refine gl tb ?_ | refine gg tb ?_ | refine ll tb ?_ | refine lg tb ?_))
      refine sAd tb ?_
      try (first | refine gl tb ?_ | refine gg tb ?_ | refine ll tb ?_ | refine lg tb ?_); repeat ((first | refine G.condT rfl ?_ | refine G.condF rfl ?_ | refine sFa tb ?_ | refine sLd tb ?_ | refine sLa tb ?_ | refine sLen tb ?_ | refine sFd tb ?_ | refine sBd tb ?_ | refine sBa tb ?_); try (first | refine gl tb ?_ | refine gg tb ?_ | refine ll tb ?_ | refine lg tb ?_))
      exact G.lp (x := k) (j + 1) (by repeat (first | exact Sub.nil _ | refine Sub.cons rfl ?_)) ⟨hx2, by omega, _, hb2, by rw [List.length_append, List.length_cons, List.length_nil]; omega, decAt_step hd he⟩ (by omega)
    · first | refine G.condD rfl (fun hc => ?_) (fun hc => ?_) | refine G.condN rfl (fun hc => ?_) (fun hc => ?_) | refine G.cond rfl (fun hc => ?_) (fun hc => ?_)
      · simp only [Bool.and_eq_true, decide_eq_true_eq] at hc
        try (first | refine gl tb ?_ | refine gg tb ?_ | refine ll tb ?_ | refine lg tb ?_); repeat ((first | refine G.condT rfl ?_ | refine G.condF rfl ?_ | refine sFa tb ?_ | refine sLd tb ?_ | refine sLa tb ?_ | refine sLen tb ?_ | refine sFd tb ?_ | refine sBd tb ?_ | refine sBa tb ?_); try (first | refine gl tb ?_ | refine gg tb ?_ | refine ll tb ?_ | refine lg tb ?_))
        refine G.met (k, 32) (by repeat (first | exact Sub.nil _ | refine Sub.cons rfl ?_)) ⟨hx, hb, Nat.le_refl _, hlt, ?_⟩
        rw [hdr, decP_cons, if_pos hc]
      · have hc1 : ¬ ((c.toNat : Int) = 43 ∧ plus = true) := by
          intro h
          rw [decide_eq_true h.1, h.2] at hc; cases hc
        try (first | refine gl tb ?_ | refine gg tb ?_ | refine ll tb ?_ | refine lg tb ?_); repeat ((first | refine G.condT rfl ?_ | refine G.condF rfl ?_ | refine sFa tb ?_ | refine sLd tb ?_ | refine sLa tb ?_ | refine sLen tb ?_ | refine sFd tb ?_ | refine sBd tb ?_ | refine sBa tb ?_); try (first | refine gl tb ?_ | refine gg tb ?_ | refine ll tb ?_ | refine lg tb ?_))
        first | refine G.condD rfl (fun hc => ?_) (fun hc => ?_) | refine G.condN rfl (fun hc => ?_) (fun hc => ?_) | refine G.cond rfl (fun hc => ?_) (fun hc => ?_)
        · have hdr2 : decP plus (s.drop k) = match s.drop (k + 1) with
              | a :: b :: r' => if hexI a < 0 ∨ hexI b < 0 then none else (decP plus r').map (byI (16 * hexI a + hexI b) :: ·)
              | _ => none := by
            rw [hdr, decP_cons, if_neg hc1, if_pos hc]
          try (first | refine gl tb ?_ | refine gg tb ?_ | refine ll tb ?_ | refine lg tb ?_); repeat ((first | refine G.condT rfl ?_ | refine G.condF rfl ?_ | refine sFa tb ?_ | refine sLd tb ?_ | refine sLa tb ?_ | refine sLen tb ?_ | refine sFd tb ?_ | refine sBd tb ?_ | refine sBa tb ?_); try (first | refine gl tb ?_ | refine gg tb ?_ | refine ll tb ?_ | refine lg tb ?_))
          refine sAd tb ?_
          try (first | refine gl tb ?_ | refine gg tb ?_ | refine ll tb ?_ | refine lg tb ?_); repeat ((first | refine G.condT rfl ?_ | refine G.condF rfl ?_ | refine sFa tb ?_ | refine sLd tb ?_ | refine sLa tb ?_ | refine sLen tb ?_ | refine sFd tb ?_ | refine sBd tb ?_ | refine sBa tb ?_); try (first | refine gl tb ?_ | refine gg tb ?_ | refine ll tb ?_ | refine lg tb ?_))
          by_cases hroom : s.length ≤ k + 2
          · rw [show decide ((s.length : Int) ≤ (k : Int) + 2) = true from decide_eq_true (by omega)]
            have hn : decP plus s = none := by
              refine decAt_none hd (hdr2.trans ?_)
              have hl : (s.drop (k + 1)).length ≤ 1 := by rw [List.length_drop]; omega
              match s.drop (k + 1), hl with
              | [], _ => rfl
              | [_], _ => rfl
            rw [hn]
            try (first | refine gl tb ?_ | refine gg tb ?_ | refine ll tb ?_ | refine lg tb ?_); repeat ((first | refine G.condT rfl ?_ | refine G.condF rfl ?_ | refine sFa tb ?_ | refine sLd tb ?_ | refine sLa tb ?_ | refine sLen tb ?_ | refine sFd tb ?_ | refine sBd tb ?_ | refine sBa tb ?_); try (first | refine gl tb ?_ | refine gg tb ?_ | refine ll tb ?_ | refine lg tb ?_))
            refine GL.cons (Step.off (v := .int .i64 0) rfl (of_decide_eq_true rfl) rfl ?_)
            refine GL.cons (Step.off (v := U 0) rfl (of_decide_eq_true rfl) rfl ?_)
            refine GL.cons (Step.off (v := .int .i64 0) rfl (of_decide_eq_true rfl) rfl ?_)
            try (first | refine gl tb ?_ | refine gg tb ?_ | refine ll tb ?_ | refine lg tb ?_); repeat ((first | refine G.condT rfl ?_ | refine G.condF rfl ?_ | refine sFa tb ?_ | refine sLd tb ?_ | refine sLa tb ?_ | refine sLen tb ?_ | refine sFd tb ?_ | refine sBd tb ?_ | refine sBa tb ?_); try (first | refine gl tb ?_ | refine gg tb ?_ | refine ll tb ?_ | refine lg tb ?_))
            refine GL.cons (Step.off (v := .int .i64 0) rfl (of_decide_eq_true rfl) rfl ?_)
            refine GL.cons (Step.off (v := U 0) rfl (of_decide_eq_true rfl) rfl ?_)
            refine GL.cons (Step.off (v := .int .i64 0) rfl (of_decide_eq_true rfl) rfl ?_)
            try (first | refine gl tb ?_ | refine gg tb ?_ | refine ll tb ?_ | refine lg tb ?_); repeat ((first | refine G.condT rfl ?_ | refine G.condF rfl ?_ | refine sFa tb ?_ | refine sLd tb ?_ | refine sLa tb ?_ | refine sLen tb ?_ | refine sFd tb ?_ | refine sBd tb ?_ | refine sBa tb ?_); try (first | refine gl tb ?_ | refine gg tb ?_ | refine ll tb ?_ | refine lg tb ?_))
            refine G.ret2 rfl rfl rfl rfl rfl ?_
            exact ⟨rfl, hx⟩
          · rw [show decide ((s.length : Int) ≤ (k : Int) + 2) = false from decide_eq_false (by omega)]
            have hd1 : s.drop (k + 1) = s.getD (k + 1) 0 :: s.getD (k + 2) 0 :: s.drop (k + 3) := by rw [drop_at (show k + 1 < s.length by omega), drop_at (show k + 2 < s.length by omega)]
            have hgo : decP plus (s.drop k) = if hexI (s.getD (k + 1) 0) < 0 ∨ hexI (s.getD (k + 2) 0) < 0 then none else (decP plus (s.drop (k + 3))).map (byI (16 * hexI (s.getD (k + 1) 0) + hexI (s.getD (k + 2) 0)) :: ·) := by rw [hdr2, hd1]
            have hb1 := hexI_bd (s.getD (k + 1) 0)
            have hb2 := hexI_bd (s.getD (k + 2) 0)
            try (first | refine gl tb ?_ | refine gg tb ?_ | refine ll tb ?_ | refine lg tb ?_); repeat ((first | refine G.condT rfl ?_ | refine G.condF rfl ?_ | refine sFa tb ?_ | refine sLd tb ?_ | refine sLa tb ?_ | refine sLen tb ?_ | refine sFd tb ?_ | refine sBd tb ?_ | refine sBa tb ?_); try (first | refine gl tb ?_ | refine gg tb ?_ | refine ll tb ?_ | refine lg tb ?_))
            refine sAd tb ?_
            refine sBs tb (k + 1) ?_ (hj := fun _ => ⟨by omega, by omega⟩)
            refine sCallx c98 (fun hc => base16_ext (s.getD (k + 1) 0) W) ?_
            intro W1 hx1
            try (first | refine gl tb ?_ | refine gg tb ?_ | refine ll tb ?_ | refine lg tb ?_); repeat ((first | refine G.condT rfl ?_ | refine G.condF rfl ?_ | refine sFa tb ?_ | refine sLd tb ?_ | refine sLa tb ?_ | refine sLen tb ?_ | refine sFd tb ?_ | refine sBd tb ?_ | refine sBa tb ?_); try (first | refine gl tb ?_ | refine gg tb ?_ | refine ll tb ?_ | refine lg tb ?_))
            refine sAd tb ?_
            refine sBs tb (k + 2) ?_ (hj := fun _ => ⟨by omega, by omega⟩)
            refine sCallx c98 (fun hc => base16_ext (s.getD (k + 2) 0) W1) ?_
            intro W2 hx2
            have hx02 := hx.trans (hx1.trans hx2)
            have hb02 := hb.ext (hx1.trans hx2)
            try (first | refine gl tb ?_ | refine gg tb ?_ | refine ll tb ?_ | refine lg tb ?_); repeat ((first | refine G.condT rfl ?_ | refine G.condF rfl ?_ | refine sFa tb ?_ | refine sLd tb ?_ | refine sLa tb ?_ | refine sLen tb ?_ | refine sFd tb ?_ | refine sBd tb ?_ | refine sBa tb ?_); try (first | refine gl tb ?_ | refine gg tb ?_ | refine ll tb ?_ | refine lg tb ?_))
            first | refine G.condD rfl (fun hc => ?_) (fun hc => ?_) | refine G.condN rfl (fun hc => ?_) (fun hc => ?_) | refine G.cond rfl (fun hc => ?_) (fun hc => ?_)
            · rw [if_pos (by simpa using hc)] at hgo
              have hn : decP plus s = none := decAt_none hd hgo
              rw [hn]
              try (first | refine gl tb ?_ | refine gg tb ?_ | refine ll tb ?_ | refine lg tb ?_); repeat ((first | refine G.condT rfl ?_ | refine G.condF rfl ?_ | refine sFa tb ?_ | refine sLd tb ?_ | refine sLa tb ?_ | refine sLen tb ?_ | refine sFd tb ?_ | refine sBd tb ?_ | refine sBa tb ?_); try (first | refine gl tb ?_ | refine gg tb ?_ | refine ll tb ?_ | refine lg tb ?_))
              refine G.ret2 rfl rfl rfl rfl rfl ?_
              exact ⟨rfl, hx02⟩
            · rw [if_neg (by simpa using hc)] at hgo
              try (first | refine gl tb ?_ | refine gg tb ?_ | refine ll tb ?_ | refine lg tb ?_); repeat ((first | refine G.condT rfl ?_ | refine G.condF rfl ?_ | refine sFa tb ?_ | refine sLd tb ?_ | refine sLa tb ?_ | refine sLen tb ?_ | refine sFd tb ?_ | refine sBd tb ?_ | refine sBa tb ?_); try (first | refine gl tb ?_ | refine gg tb ?_ | refine ll tb ?_ | refine lg tb ?_))
              refine G.regionM [(0, true), (1, true), (2, true), (3, true), (4, true), (5, true), (6, true), (7, true), (8, true), (9, true), (10, true), (11, true), (12, true), (13, true)] (Ext W2) (by kernel_rfl) (by kernel_rfl) rfl mixed (Ext.drew W2) rfl ?_
              try (refine mm tb ?_); repeat ((first | refine dFa tb ?_ | refine dLd tb ?_ | refine dLa tb ?_ | refine dLen tb ?_ | refine dFd tb ?_); try (refine mm tb ?_))
              refine dAd tb ?_
              refine dBs tb (k + 1) ?_ (hj := fun _ => ⟨by omega, by omega⟩)
              refine dCallq c98 (fun w' _ _ => base16_ok (s.getD (k + 1) 0) w') ?_
              refine dAr (r := 16 * hexI (s.getD (k + 1) 0)) ?_ (hp := wrap_i64 (by omega) (by omega))
              try (refine mm tb ?_); repeat ((first | refine dFa tb ?_ | refine dLd tb ?_ | refine dLa tb ?_ | refine dLen tb ?_ | refine dFd tb ?_); try (refine mm tb ?_))
              refine dAd tb ?_
              refine dBs tb (k + 2) ?_ (hj := fun _ => ⟨by omega, by omega⟩)
              refine dCallq c98 (fun w' _ _ => base16_ok (s.getD (k + 2) 0) w') ?_
              refine dAr (r := 16 * hexI (s.getD (k + 1) 0) + hexI (s.getD (k + 2) 0)) ?_ (hp := wrap_i64 (by omega) (by omega))
              refine dCb tb ?_
              try (refine mm tb ?_); repeat ((first | refine dFa tb ?_ | refine dLd tb ?_ | refine dLa tb ?_ | refine dLen tb ?_ | refine dFd tb ?_); try (refine mm tb ?_))
              refine GM.nil ?_
              try (first | refine gl tb ?_ | refine gg tb ?_ | refine ll tb ?_ | refine lg tb ?_); repeat ((first | refine G.condT rfl ?_ | refine G.condF rfl ?_ | refine sFa tb ?_ | refine sLd tb ?_ | refine sLa tb ?_ | refine sLen tb ?_ | refine sFd tb ?_ | refine sBd tb ?_ | refine sBa tb ?_); try (first | refine gl tb ?_ | refine gg tb ?_ | refine ll tb ?_ | refine lg tb ?_))
              refine sAd tb ?_
              try (first | refine gl tb ?_ | refine gg tb ?_ | refine ll tb ?_ | refine lg tb ?_); repeat ((first | refine G.condT rfl ?_ | refine G.condF rfl ?_ | refine sFa tb ?_ | refine sLd tb ?_ | refine sLa tb ?_ | refine sLen tb ?_ | refine sFd tb ?_ | refine sBd tb ?_ | refine sBa tb ?_); try (first | refine gl tb ?_ | refine gg tb ?_ | refine ll tb ?_ | refine lg tb ?_))
              exact G.met (k + 2, _) (by repeat (first | exact Sub.nil _ | refine Sub.cons rfl ?_)) ⟨hx02.drew', hb02.ext (Ext.drew W2), by simp only; omega, by simp only; omega, hgo⟩
        · try (first | refine gl tb ?_ | refine gg tb ?_ | refine ll tb ?_ | refine lg tb ?_); repeat ((first | refine G.condT rfl ?_ | refine G.condF rfl ?_ | refine sFa tb ?_ | refine sLd tb ?_ | refine sLa tb ?_ | refine sLen tb ?_ | refine sFd tb ?_ | refine sBd tb ?_ | refine sBa tb ?_); try (first | refine gl tb ?_ | refine gg tb ?_ | refine ll tb ?_ | refine lg tb ?_))
          refine G.met (k, c) (by repeat (first | exact Sub.nil _ | refine Sub.cons rfl ?_)) ⟨hx, hb, Nat.le_refl _, hlt, ?_⟩
          rw [hdr, decP_cons, if_neg hc1, if_neg hc]
  · obtain rfl : k = s.length := by omega
    have he : decP plus s = some acc := by
      unfold decAt at hd
      rw [← hd, List.drop_length]; simp [decP]
    rw [he]
    try (first | refine gl tb ?_ | refine gg tb ?_ | refine ll tb ?_ | refine lg tb ?_); repeat ((first | refine G.condT rfl ?_ | refine G.condF rfl ?_ | refine sFa tb ?_ | refine sLd tb ?_ | refine sLa tb ?_ | refine sLen tb ?_ | refine sFd tb ?_ | refine sBd tb ?_ | refine sBa tb ?_); try (first | refine gl tb ?_ | refine gg tb ?_ | refine ll tb ?_ | refine lg tb ?_))
    refine sCall c65 (bstr_ok w.heap.size w.heap.size acc W hb hx.size) ?_
    rintro _ W2 ⟨rfl, hx2⟩
    try (first | refine gl tb ?_ | refine gg tb ?_ | refine ll tb ?_ | refine lg tb ?_); repeat ((first | refine G.condT rfl ?_ | refine G.condF rfl ?_ | refine sFa tb ?_ | refine sLd tb ?_ | refine sLa tb ?_ | refine sLen tb ?_ | refine sFd tb ?_ | refine sBd tb ?_ | refine sBa tb ?_); try (first | refine gl tb ?_ | refine gg tb ?_ | refine ll tb ?_ | refine lg tb ?_))
    refine G.ret2 rfl rfl rfl rfl rfl ?_
    exact ⟨rfl, Below.trans (B := w.heap.size) hx hx2⟩
end Go.Proofs.YtlaingmhdgpkdaaGreatDoor
