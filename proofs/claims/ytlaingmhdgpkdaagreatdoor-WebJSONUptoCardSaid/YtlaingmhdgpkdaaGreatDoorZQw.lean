/- web.Quote, walked. -/
import Derived.Test.YtlaingmhdgpkdaaGreatDoorZQt
import Derived.Test.YtlaingmhdgpkdaaGreatDoorZBuf
open Go Go.Vg Go.RowKit Go.Proofs Go.Proofs.YtlaingmhdgpkdaaGreatDoor
namespace Go.Proofs.YtlaingmhdgpkdaaGreatDoor
set_option linter.unusedSimpArgs false

abbrev Buf (w : World) (B b : Nat) (l : List UInt8) : Prop := Lib.IsBuffer 43 5 B b (Lib.byteCells l) w
theorem bwb_ok (B b : Nat) (l : List UInt8) (c : UInt8) (w : World) (h : Buf w B b l) (hl : l.length + 1 ≤ 140737488355328) (hB : B ≤ w.heap.size) :
    Ret Tryz.prog 28 ⟨[ptr b, U c]⟩ w fun r w' => r = .nilIface ∧ Buf w' B b (l ++ [c]) ∧ Below B w w' :=
  Calls.mono (Any.Buffer_WriteByte_kept Tryz.laysM179 B b (Lib.byteCells l) c.toNat w h hB (Lib.byteCells_one l) (by rw [Lib.byteCells_length]; exact hl)) fun _ _ ⟨he, h1, h2, _⟩ =>
    ⟨_, he, rfl, by show Lib.IsBuffer _ _ _ _ _ _; rw [Lib.byteCells_append]; exact h1, h2⟩
theorem bws_ok (B b : Nat) (l t : List UInt8) (w : World) (h : Buf w B b l) (hl : l.length + t.length ≤ 140737488355328) (hB : B ≤ w.heap.size) :
    Ret Tryz.prog 30 ⟨[ptr b, S t]⟩ w fun r w' => r = .tuple ⟨[.int .i64 t.length, .nilIface]⟩ ∧ Buf w' B b (l ++ t) ∧ Below B w w' :=
  Calls.mono (Any.Buffer_WriteString_kept Tryz.laysM178 B b (Lib.byteCells l) ⟨⟨t⟩⟩ w h hB (Lib.byteCells_one l) (by rw [Lib.byteCells_length]; exact hl)) fun _ _ ⟨he, h1, h2, _⟩ =>
    ⟨_, he, rfl, by show Lib.IsBuffer _ _ _ _ _ _; rw [Lib.byteCells_append]; exact h1, h2⟩
theorem bst_ok (B b : Nat) (l : List UInt8) (w : World) (h : Buf w B b l) :
    Ret Tryz.prog 31 ⟨[ptr b]⟩ w fun r w' => r = S l ∧ Ext w w' :=
  Calls.mono (Any.Buffer_String Tryz.laysM182 B b l w h) fun _ _ ⟨he, n, h2⟩ => ⟨_, he, rfl, by rw [h2]; exact Below.trans (Ext.refl w) ⟨rfl, rfl, rfl, Nat.le_refl _, fun _ _ => rfl⟩⟩
theorem Buf.ext {w w' : World} {B b : Nat} {l : List UInt8} (h : Buf w B b l) (hx : Ext w w') : Buf w' B b l := by
  obtain ⟨hB, v, lr, hb, ⟨hl, hr⟩, hn⟩ := h
  refine ⟨hB, v, lr, by rw [hx.block b (Array.getElem?_eq_some_iff.1 hb).1]; exact hb, ⟨hl, ?_⟩, hn⟩
  rcases hr with h | ⟨g, cap, cur, h1, h2, h3, h4⟩
  · exact .inl h
  · exact .inr ⟨g, cap, cur, h1, h2, by rw [hx.block g (Array.getElem?_eq_some_iff.1 h3).1]; exact h3, h4⟩

/-- what utf8.DecodeRuneInString says at place i -/
def decAtN (s : List UInt8) (i : Nat) : Nat × Nat := Lib.decodeN (s.length - i) (s.getD i 0).toNat (s.getD (i + 1) 0).toNat (s.getD (i + 2) 0).toNat (s.getD (i + 3) 0).toNat
theorem decAt_cases {s : List UInt8} {i : Nat} (hi : i < s.length) : (u8len s i = 0 ∧ decAtN s i = (65533, 1)) ∨ (u8len s i ≠ 0 ∧ (decAtN s i).2 = u8len s i ∧ ¬ ((decAtN s i).1 = 65533 ∧ (decAtN s i).2 = 1) ∧ ((s.getD i 0).toNat < 128 → (decAtN s i).1 = (s.getD i 0).toNat) ∧ (128 ≤ (s.getD i 0).toNat → 128 ≤ (decAtN s i).1)) := by
  have h1 := u8N_decode (s.length - i) (s.getD i 0).toNat (s.getD (i + 1) 0).toNat (s.getD (i + 2) 0).toNat (s.getD (i + 3) 0).toNat
  have h2 := decodeN_1 (s.length - i) (s.getD i 0).toNat (s.getD (i + 1) 0).toNat (s.getD (i + 2) 0).toNat (s.getD (i + 3) 0).toNat
  rw [← u8len_N s i hi] at h1
  rcases h1 with h | ⟨ha, hb, hc⟩
  · exact .inl h
  · exact .inr ⟨ha, hb, hc, fun h => by unfold decAtN; rw [h2.1 h], h2.2⟩
theorem decr_ok (s : List UInt8) (i : Nat) (w : World) (hi : i < s.length) (hT : Tabs w) :
    Ret Tryz.prog 29 ⟨[S (s.drop i)]⟩ w fun r w' => r = .tuple ⟨[.int .i32 (decAtN s i).1, .int .i64 (decAtN s i).2]⟩ ∧ Ext w w' :=
  Calls.mono (Any.utf8_DecodeRuneInString Tryz.lays197 ⟨⟨s.drop i⟩⟩ w hT) fun _ _ ⟨he, hb⟩ => ⟨_, he, by
    have hz : ¬ (ByteArray.mk ⟨s.drop i⟩).size = 0 := by
      show ¬ (s.drop i).length = 0
      rw [List.length_drop]; omega
    have : Lib.decodeGo ⟨⟨s.drop i⟩⟩ = decAtN s i := by
      unfold Lib.decodeGo
      rw [if_neg hz]
      have := Lib.decodeL_N (s.drop i)
      rw [List.length_drop, getD_drop, getD_drop, getD_drop, getD_drop] at this
      exact this
    rw [this], hb⟩
theorem wrap_i32 {n : Int} (h0 : -2147483648 ≤ n) (h1 : n ≤ 2147483647) : IntKind.i32.wrap n = n := by
  have hb : IntKind.i32.bits = 32 := rfl
  have hs : IntKind.i32.signed = true := rfl
  unfold IntKind.wrap
  simp only [hb, hs, Bool.true_and, decide_eq_true_eq]
  have e1 : (2 : Int) ^ 32 = 4294967296 := by decide
  have e2 : (2 : Int) ^ (32 - 1) = 2147483648 := by decide
  rw [e1, e2]
  split <;> omega
theorem q1_of (c : UInt8) : q1 c = if c.toNat = 34 ∨ c.toNat = 92 then [92, c] else if c.toNat = 10 then [92, 110] else if c.toNat = 13 then [92, 114] else if c.toNat = 9 then [92, 116]
    else if c.toNat < 32 then [92, 117, 48, 48, hexS.getD (c.toNat / 16) 0, hexS.getD (c.toNat % 16) 0] else [c] := by
  unfold q1
  simp only [← UInt8.toNat_inj]
  rfl
theorem byI_nat (c : UInt8) : byI (c.toNat : Int) = c := by
  have h := byI_int (c.toNat : Int)
  have := c.toNat_lt
  exact UInt8.toNat_inj.1 (by omega)
theorem hexS_cut (a : Nat) (h : a < 16) : (([48, 49, 50, 51, 52, 53, 54, 55, 56, 57, 97, 98, 99, 100, 101, 102] : List UInt8).drop a).take (a + 1 - a) = [hexS.getD a 0] := by
  have : ∀ a : Fin 16, (([48, 49, 50, 51, 52, 53, 54, 55, 56, 57, 97, 98, 99, 100, 101, 102] : List UInt8).drop a.val).take (a.val + 1 - a.val) = [hexS.getD a.val 0] := by decide
  exact this ⟨a, h⟩

set_option maxHeartbeats 4000000 in
theorem quote_ok (s : List UInt8) (w : World) (hs : s.length ≤ 2000000) (hT : Tabs w) :
    Ret Tryz.prog 7 ⟨[S s]⟩ w fun r w' => r = S (quoteP s) ∧ Ext w w' := by
  have hQl := quoteP_len s
  refine ret_of_G Tryz.func7 rfl Tryz.ntmps7 rfl ?_
  simp only [argEnv]
  try (first | refine gl tb ?_ | refine gg tb ?_ | refine ll tb ?_ | refine lg tb ?_); repeat ((first | refine G.condT rfl ?_ | refine G.condF rfl ?_ | refine sFa tb ?_ | refine sLd tb ?_ | refine sLa tb ?_ | refine sLen tb ?_ | refine sFd tb ?_ | refine sBd tb ?_ | refine sBa tb ?_); try (first | refine gl tb ?_ | refine gg tb ?_ | refine ll tb ?_ | refine lg tb ?_))
  refine GL.cons (Step.allocE tb rfl rfl rfl rfl ?_)
  have hx1 : Ext w (w.alloc (.cells ⟨[.slice none 0 0, .int .i64 0, .int .i8 0]⟩ 43)) := Ext.alloc _ _
  have hb1 : Buf (w.alloc (.cells ⟨[.slice none 0 0, .int .i64 0, .int .i8 0]⟩ 43)) w.heap.size w.heap.size [] := Lib.fresh_isBuffer _ _ _
  generalize w.alloc (.cells ⟨[.slice none 0 0, .int .i64 0, .int .i8 0]⟩ 43) = w1 at hx1 hb1 ⊢
  try (first | refine gl tb ?_ | refine gg tb ?_ | refine ll tb ?_ | refine lg tb ?_); repeat ((first | refine G.condT rfl ?_ | refine G.condF rfl ?_ | refine sFa tb ?_ | refine sLd tb ?_ | refine sLa tb ?_ | refine sLen tb ?_ | refine sFd tb ?_ | refine sBd tb ?_ | refine sBa tb ?_); try (first | refine gl tb ?_ | refine gg tb ?_ | refine ll tb ?_ | refine lg tb ?_))
  refine sCall c28 (bwb_ok w.heap.size w.heap.size [] 34 w1 hb1 (by simp) hx1.size) ?_
  rintro _ W0 ⟨rfl, hb0, hx0⟩
  have hx0 : Ext w W0 := Below.trans (B := w.heap.size) hx1 hx0
  try (first | refine gl tb ?_ | refine gg tb ?_ | refine ll tb ?_ | refine lg tb ?_); repeat ((first | refine G.condT rfl ?_ | refine G.condF rfl ?_ | refine sFa tb ?_ | refine sLd tb ?_ | refine sLa tb ?_ | refine sLen tb ?_ | refine sFd tb ?_ | refine sBd tb ?_ | refine sBa tb ?_); try (first | refine gl tb ?_ | refine gg tb ?_ | refine ll tb ?_ | refine lg tb ?_))
  refine (G.loop (fun i : Nat => [(0, none, S s), (3, none, ptr w.heap.size), (4, none, .int .i64 i)]) (fun i W => Ext w W ∧ i ≤ s.length ∧ ∃ acc, Buf W w.heap.size w.heap.size acc ∧ acc ++ quoteF s (s.length - i) i ++ [34] = quoteP s) (fun i => s.length - i) 0 (by repeat (first | exact Sub.nil _ | refine Sub.cons rfl ?_)) ⟨hx0, by omega, [34], hb0, rfl⟩ ?_)
  clear hb1 hx1 hb0
  rintro i W ⟨hx, hi, acc, hb, hacc⟩
  have hal : acc.length ≤ (quoteP s).length := by rw [← hacc, List.length_append, List.length_append]; omega
  try (first | refine gl tb ?_ | refine gg tb ?_ | refine ll tb ?_ | refine lg tb ?_); repeat ((first | refine G.condT rfl ?_ | refine G.condF rfl ?_ | refine sFa tb ?_ | refine sLd tb ?_ | refine sLa tb ?_ | refine sLen tb ?_ | refine sFd tb ?_ | refine sBd tb ?_ | refine sBa tb ?_); try (first | refine gl tb ?_ | refine gg tb ?_ | refine ll tb ?_ | refine lg tb ?_))
  first | refine G.condD rfl (fun hc => ?_) (fun hc => ?_) | refine G.condN rfl (fun hc => ?_) (fun hc => ?_) | refine G.cond rfl (fun hc => ?_) (fun hc => ?_)
  · have hlt : i < s.length := by omega
    have hst := quoteF_step hlt
    rw [hst] at hacc
    have hle := stepQ_le hlt
    have hpl : acc.length + (pieceQ s i).length + 1 ≤ (quoteP s).length := by rw [← hacc]; simp only [List.length_append, List.length_cons, List.length_nil]; omega
    try (first | refine gl tb ?_ | refine gg tb ?_ | refine ll tb ?_ | refine lg tb ?_); repeat ((first | refine G.condT rfl ?_ | refine G.condF rfl ?_ | refine sFa tb ?_ | refine sLd tb ?_ | refine sLa tb ?_ | refine sLen tb ?_ | refine sFd tb ?_ | refine sBd tb ?_ | refine sBa tb ?_); try (first | refine gl tb ?_ | refine gg tb ?_ | refine ll tb ?_ | refine lg tb ?_))
    refine GL.cons (Step.sliceSl tb i rfl (Op1.of rfl (by first | exact fun _ => rfl | exact fun h => h | exact fun h => bL h | exact fun h => bL (bL h) | exact fun h => bL (bL (bL h)))) (Op1.of rfl (by first | exact fun _ => rfl | exact fun h => h | exact fun h => bL h | exact fun h => bL (bL h) | exact fun h => bL (bL (bL h)))) rfl (fun _ => ⟨rfl, by omega⟩) rfl ?_)
    refine sCall c29 (decr_ok s i W hlt (hT.to hx)) ?_
    rintro _ W1 ⟨rfl, hx1⟩
    have hb1 := hb.ext hx1
    have hx01 := hx.trans hx1
    have hdc := decAt_cases hlt
    obtain ⟨⟨r, n⟩, hrn⟩ : ∃ p, decAtN s i = p := ⟨_, rfl⟩
    rw [hrn] at hdc ⊢
    simp only at hdc ⊢
    have hpz : u8len s i = 0 → pieceQ s i = fffdQ := fun h => by unfold pieceQ; rw [if_pos h]
    have hpa : u8len s i ≠ 0 → (s.getD i 0).toNat < 128 → pieceQ s i = q1 (s.getD i 0) := fun h h2 => by unfold pieceQ; rw [if_neg h, if_pos h2]
    have hpb : u8len s i ≠ 0 → 128 ≤ (s.getD i 0).toNat → pieceQ s i = (s.drop i).take (u8len s i) := fun h h2 => by unfold pieceQ; rw [if_neg h, if_neg (by omega)]
    have hsn : stepQ s i = n := by
      unfold stepQ
      rcases hdc with ⟨h, h2⟩ | ⟨h, h2, -⟩
      · rw [if_pos h]; exact (congrArg Prod.snd h2).symm
      · rw [if_neg h]; exact h2.symm
    rw [hsn] at hle
    try (first | refine gl tb ?_ | refine gg tb ?_ | refine ll tb ?_ | refine lg tb ?_); repeat ((first | refine G.condT rfl ?_ | refine G.condF rfl ?_ | refine sFa tb ?_ | refine sLd tb ?_ | refine sLa tb ?_ | refine sLen tb ?_ | refine sFd tb ?_ | refine sBd tb ?_ | refine sBa tb ?_); try (first | refine gl tb ?_ | refine gg tb ?_ | refine ll tb ?_ | refine lg tb ?_))
    refine G.join (fun a : List UInt8 => [(0, none, S s), (3, none, ptr w.heap.size), (4, none, .int .i64 i), (6, none, .int .i64 n)]) (fun a w' => Ext w w' ∧ Buf w' w.heap.size w.heap.size a ∧ a = acc ++ pieceQ s i) ?_ ?_
    · rintro a W2 ⟨hx2, hb2, rfl⟩
      try (first | refine gl tb ?_ | refine gg tb ?_ | refine ll tb ?_ | refine lg tb ?_); repeat ((first | refine G.condT rfl ?_ | refine G.condF rfl ?_ | refine sFa tb ?_ | refine sLd tb ?_ | refine sLa tb ?_ | refine sLen tb ?_ | refine sFd tb ?_ | refine sBd tb ?_ | refine sBa tb ?_); try (first | refine gl tb ?_ | refine gg tb ?_ | refine ll tb ?_ | refine lg tb ?_))
      refine sAd tb ?_
      try (first | refine gl tb ?_ | refine gg tb ?_ | refine ll tb ?_ | refine lg tb ?_); repeat ((first | refine G.condT rfl ?_ | refine G.condF rfl ?_ | refine sFa tb ?_ | refine sLd tb ?_ | refine sLa tb ?_ | refine sLen tb ?_ | refine sFd tb ?_ | refine sBd tb ?_ | refine sBa tb ?_); try (first | refine gl tb ?_ | refine gg tb ?_ | refine ll tb ?_ | refine lg tb ?_))
      have hsp := stepQ_pos s i
      exact G.lp (x := i) (i + n) (by repeat (first | exact Sub.nil _ | refine Sub.cons rfl ?_)) ⟨hx2, by omega, _, hb2, by rw [← hacc, hsn]; simp only [List.append_assoc]⟩ (by omega)
    · first | refine G.condD rfl (fun hc => ?_) (fun hc => ?_) | refine G.condN rfl (fun hc => ?_) (fun hc => ?_) | refine G.cond rfl (fun hc => ?_) (fun hc => ?_)
      · have hz : u8len s i = 0 := by
          rcases hdc with ⟨h, -⟩ | ⟨-, -, h, -⟩
          · exact h
          · simp only [Bool.and_eq_true, decide_eq_true_eq] at hc; omega
        rw [hpz hz] at hpl ⊢
        try (first | refine gl tb ?_ | refine gg tb ?_ | refine ll tb ?_ | refine lg tb ?_); repeat ((first | refine G.condT rfl ?_ | refine G.condF rfl ?_ | refine sFa tb ?_ | refine sLd tb ?_ | refine sLa tb ?_ | refine sLen tb ?_ | refine sFd tb ?_ | refine sBd tb ?_ | refine sBa tb ?_); try (first | refine gl tb ?_ | refine gg tb ?_ | refine ll tb ?_ | refine lg tb ?_))
        refine sCall c30 (bws_ok w.heap.size w.heap.size acc [92, 117, 102, 102, 102, 100] W1 hb1 (by simp only [fffdQ, List.length_cons, List.length_nil] at hpl ⊢; omega) hx01.size) ?_
        rintro _ W2 ⟨rfl, hb2, hx2⟩
        have hx2 : Ext w W2 := Below.trans (B := w.heap.size) hx01 hx2
        try (first | refine gl tb ?_ | refine gg tb ?_ | refine ll tb ?_ | refine lg tb ?_); repeat ((first | refine G.condT rfl ?_ | refine G.condF rfl ?_ | refine sFa tb ?_ | refine sLd tb ?_ | refine sLa tb ?_ | refine sLen tb ?_ | refine sFd tb ?_ | refine sBd tb ?_ | refine sBa tb ?_); try (first | refine gl tb ?_ | refine gg tb ?_ | refine ll tb ?_ | refine lg tb ?_))
        exact G.met _ (by repeat (first | exact Sub.nil _ | refine Sub.cons rfl ?_)) ⟨hx2, hb2, rfl⟩
      · have hz : u8len s i ≠ 0 ∧ n = u8len s i ∧ ((s.getD i 0).toNat < 128 → r = (s.getD i 0).toNat) ∧ (128 ≤ (s.getD i 0).toNat → 128 ≤ r) := by
          rcases hdc with ⟨h, h2⟩ | ⟨h, h2, h3, h4, h5⟩
          · have e1 := congrArg Prod.fst h2
            have e2 := congrArg Prod.snd h2
            simp only at e1 e2
            subst e1 e2
            simp at hc
          · exact ⟨h, h2, h4, h5⟩
        clear hdc
        obtain ⟨hz, hn, hr1, hr2⟩ := hz
        try (first | refine gl tb ?_ | refine gg tb ?_ | refine ll tb ?_ | refine lg tb ?_); repeat ((first | refine G.condT rfl ?_ | refine G.condF rfl ?_ | refine sFa tb ?_ | refine sLd tb ?_ | refine sLa tb ?_ | refine sLen tb ?_ | refine sFd tb ?_ | refine sBd tb ?_ | refine sBa tb ?_); try (first | refine gl tb ?_ | refine gg tb ?_ | refine ll tb ?_ | refine lg tb ?_))
        first | refine G.condD rfl (fun hc => ?_) (fun hc => ?_) | refine G.condN rfl (fun hc => ?_) (fun hc => ?_) | refine G.cond rfl (fun hc => ?_) (fun hc => ?_)
        · simp only [Bool.or_eq_true, decide_eq_true_eq] at hc
          have h128 : (s.getD i 0).toNat < 128 := by
            rcases Nat.lt_or_ge (s.getD i 0).toNat 128 with h | h
            · exact h
            · have := hr2 h; omega
          have hr := hr1 h128
          have hq : q1 (s.getD i 0) = [92] ++ [s.getD i 0] := by rw [q1_of, if_pos (by omega)]; rfl
          rw [hpa hz h128, hq] at hpl ⊢
          simp only [List.length_append, List.length_cons, List.length_nil] at hpl
          try (first | refine gl tb ?_ | refine gg tb ?_ | refine ll tb ?_ | refine lg tb ?_); repeat ((first | refine G.condT rfl ?_ | refine G.condF rfl ?_ | refine sFa tb ?_ | refine sLd tb ?_ | refine sLa tb ?_ | refine sLen tb ?_ | refine sFd tb ?_ | refine sBd tb ?_ | refine sBa tb ?_); try (first | refine gl tb ?_ | refine gg tb ?_ | refine ll tb ?_ | refine lg tb ?_))
          refine sCall c28 (bwb_ok w.heap.size w.heap.size acc 92 W1 hb1 (by omega) hx01.size) ?_
          rintro _ W2 ⟨rfl, hb2, hx2⟩
          have hx2 : Ext w W2 := Below.trans (B := w.heap.size) hx01 hx2
          try (first | refine gl tb ?_ | refine gg tb ?_ | refine ll tb ?_ | refine lg tb ?_); repeat ((first | refine G.condT rfl ?_ | refine G.condF rfl ?_ | refine sFa tb ?_ | refine sLd tb ?_ | refine sLa tb ?_ | refine sLen tb ?_ | refine sFd tb ?_ | refine sBd tb ?_ | refine sBa tb ?_); try (first | refine gl tb ?_ | refine gg tb ?_ | refine ll tb ?_ | refine lg tb ?_))
          refine sCb tb ?_
          rw [show byI (r : Int) = s.getD i 0 by rw [hr]; exact byI_nat _]
          refine sCall c28 (bwb_ok w.heap.size w.heap.size (acc ++ [92]) (s.getD i 0) W2 hb2 (by rw [List.length_append, List.length_cons, List.length_nil]; omega) hx2.size) ?_
          rintro _ W3 ⟨rfl, hb3, hx3⟩
          have hx3 : Ext w W3 := Below.trans (B := w.heap.size) hx2 hx3
          try (first | refine gl tb ?_ | refine gg tb ?_ | refine ll tb ?_ | refine lg tb ?_); repeat ((first | refine G.condT rfl ?_ | refine G.condF rfl ?_ | refine sFa tb ?_ | refine sLd tb ?_ | refine sLa tb ?_ | refine sLen tb ?_ | refine sFd tb ?_ | refine sBd tb ?_ | refine sBa tb ?_); try (first | refine gl tb ?_ | refine gg tb ?_ | refine ll tb ?_ | refine lg tb ?_))
          exact G.met _ (by repeat (first | exact Sub.nil _ | refine Sub.cons rfl ?_)) ⟨hx3, hb3, by rw [List.append_assoc]⟩
        · have hn34 : ¬ r = 34 ∧ ¬ r = 92 := by constructor <;> (intro h; subst h; simp at hc)
          clear hc
          try (first | refine gl tb ?_ | refine gg tb ?_ | refine ll tb ?_ | refine lg tb ?_); repeat ((first | refine G.condT rfl ?_ | refine G.condF rfl ?_ | refine sFa tb ?_ | refine sLd tb ?_ | refine sLa tb ?_ | refine sLen tb ?_ | refine sFd tb ?_ | refine sBd tb ?_ | refine sBa tb ?_); try (first | refine gl tb ?_ | refine gg tb ?_ | refine ll tb ?_ | refine lg tb ?_))
          first | refine G.condD rfl (fun hc => ?_) (fun hc => ?_) | refine G.condN rfl (fun hc => ?_) (fun hc => ?_) | refine G.cond rfl (fun hc => ?_) (fun hc => ?_)
          · have hrk : r = 10 := by omega
            have h128 : (s.getD i 0).toNat < 128 := by
              rcases Nat.lt_or_ge (s.getD i 0).toNat 128 with h | h
              · exact h
              · have := hr2 h; omega
            have hr := hr1 h128
            have hq : q1 (s.getD i 0) = [92, 110] := by rw [q1_of, ← hr, hrk]; rfl
            rw [hpa hz h128, hq] at hpl ⊢
            simp only [List.length_append, List.length_cons, List.length_nil] at hpl
            try (first | refine gl tb ?_ | refine gg tb ?_ | refine ll tb ?_ | refine lg tb ?_); repeat ((first | refine G.condT rfl ?_ | refine G.condF rfl ?_ | refine sFa tb ?_ | refine sLd tb ?_ | refine sLa tb ?_ | refine sLen tb ?_ | refine sFd tb ?_ | refine sBd tb ?_ | refine sBa tb ?_); try (first | refine gl tb ?_ | refine gg tb ?_ | refine ll tb ?_ | refine lg tb ?_))
            refine sCall c30 (bws_ok w.heap.size w.heap.size acc [92, 110] W1 hb1 (by simp only [List.length_cons, List.length_nil] at hpl ⊢; omega) hx01.size) ?_
            rintro _ W2 ⟨rfl, hb2, hx2⟩
            have hx2 : Ext w W2 := Below.trans (B := w.heap.size) hx01 hx2
            try (first | refine gl tb ?_ | refine gg tb ?_ | refine ll tb ?_ | refine lg tb ?_); repeat ((first | refine G.condT rfl ?_ | refine G.condF rfl ?_ | refine sFa tb ?_ | refine sLd tb ?_ | refine sLa tb ?_ | refine sLen tb ?_ | refine sFd tb ?_ | refine sBd tb ?_ | refine sBa tb ?_); try (first | refine gl tb ?_ | refine gg tb ?_ | refine ll tb ?_ | refine lg tb ?_))
            exact G.met _ (by repeat (first | exact Sub.nil _ | refine Sub.cons rfl ?_)) ⟨hx2, hb2, rfl⟩
          · rename_i hold
            have hn10 : ¬ r = 10 := by omega
            clear hold
            try (first | refine gl tb ?_ | refine gg tb ?_ | refine ll tb ?_ | refine lg tb ?_); repeat ((first | refine G.condT rfl ?_ | refine G.condF rfl ?_ | refine sFa tb ?_ | refine sLd tb ?_ | refine sLa tb ?_ | refine sLen tb ?_ | refine sFd tb ?_ | refine sBd tb ?_ | refine sBa tb ?_); try (first | refine gl tb ?_ | refine gg tb ?_ | refine ll tb ?_ | refine lg tb ?_))
            first | refine G.condD rfl (fun hc => ?_) (fun hc => ?_) | refine G.condN rfl (fun hc => ?_) (fun hc => ?_) | refine G.cond rfl (fun hc => ?_) (fun hc => ?_)
            · have hrk : r = 13 := by omega
              have h128 : (s.getD i 0).toNat < 128 := by
                rcases Nat.lt_or_ge (s.getD i 0).toNat 128 with h | h
                · exact h
                · have := hr2 h; omega
              have hr := hr1 h128
              have hq : q1 (s.getD i 0) = [92, 114] := by rw [q1_of, ← hr, hrk]; rfl
              rw [hpa hz h128, hq] at hpl ⊢
              simp only [List.length_append, List.length_cons, List.length_nil] at hpl
              try (first | refine gl tb ?_ | refine gg tb ?_ | refine ll tb ?_ | refine lg tb ?_); repeat ((first | refine G.condT rfl ?_ | refine G.condF rfl ?_ | refine sFa tb ?_ | refine sLd tb ?_ | refine sLa tb ?_ | refine sLen tb ?_ | refine sFd tb ?_ | refine sBd tb ?_ | refine sBa tb ?_); try (first | refine gl tb ?_ | refine gg tb ?_ | refine ll tb ?_ | refine lg tb ?_))
              refine sCall c30 (bws_ok w.heap.size w.heap.size acc [92, 114] W1 hb1 (by simp only [List.length_cons, List.length_nil] at hpl ⊢; omega) hx01.size) ?_
              rintro _ W2 ⟨rfl, hb2, hx2⟩
              have hx2 : Ext w W2 := Below.trans (B := w.heap.size) hx01 hx2
              try (first | refine gl tb ?_ | refine gg tb ?_ | refine ll tb ?_ | refine lg tb ?_); repeat ((first | refine G.condT rfl ?_ | refine G.condF rfl ?_ | refine sFa tb ?_ | refine sLd tb ?_ | refine sLa tb ?_ | refine sLen tb ?_ | refine sFd tb ?_ | refine sBd tb ?_ | refine sBa tb ?_); try (first | refine gl tb ?_ | refine gg tb ?_ | refine ll tb ?_ | refine lg tb ?_))
              exact G.met _ (by repeat (first | exact Sub.nil _ | refine Sub.cons rfl ?_)) ⟨hx2, hb2, rfl⟩
            · rename_i hold
              have hn13 : ¬ r = 13 := by omega
              clear hold
              try (first | refine gl tb ?_ | refine gg tb ?_ | refine ll tb ?_ | refine lg tb ?_); repeat ((first | refine G.condT rfl ?_ | refine G.condF rfl ?_ | refine sFa tb ?_ | refine sLd tb ?_ | refine sLa tb ?_ | refine sLen tb ?_ | refine sFd tb ?_ | refine sBd tb ?_ | refine sBa tb ?_); try (first | refine gl tb ?_ | refine gg tb ?_ | refine ll tb ?_ | refine lg tb ?_))
              first | refine G.condD rfl (fun hc => ?_) (fun hc => ?_) | refine G.condN rfl (fun hc => ?_) (fun hc => ?_) | refine G.cond rfl (fun hc => ?_) (fun hc => ?_)
              · have hrk : r = 9 := by omega
                have h128 : (s.getD i 0).toNat < 128 := by
                  rcases Nat.lt_or_ge (s.getD i 0).toNat 128 with h | h
                  · exact h
                  · have := hr2 h; omega
                have hr := hr1 h128
                have hq : q1 (s.getD i 0) = [92, 116] := by rw [q1_of, ← hr, hrk]; rfl
                rw [hpa hz h128, hq] at hpl ⊢
                simp only [List.length_append, List.length_cons, List.length_nil] at hpl
                try (first | refine gl tb ?_ | refine gg tb ?_ | refine ll tb ?_ | refine lg tb ?_); repeat ((first | refine G.condT rfl ?_ | refine G.condF rfl ?_ | refine sFa tb ?_ | refine sLd tb ?_ | refine sLa tb ?_ | refine sLen tb ?_ | refine sFd tb ?_ | refine sBd tb ?_ | refine sBa tb ?_); try (first | refine gl tb ?_ | refine gg tb ?_ | refine ll tb ?_ | refine lg tb ?_))
                refine sCall c30 (bws_ok w.heap.size w.heap.size acc [92, 116] W1 hb1 (by simp only [List.length_cons, List.length_nil] at hpl ⊢; omega) hx01.size) ?_
                rintro _ W2 ⟨rfl, hb2, hx2⟩
                have hx2 : Ext w W2 := Below.trans (B := w.heap.size) hx01 hx2
                try (first | refine gl tb ?_ | refine gg tb ?_ | refine ll tb ?_ | refine lg tb ?_); repeat ((first | refine G.condT rfl ?_ | refine G.condF rfl ?_ | refine sFa tb ?_ | refine sLd tb ?_ | refine sLa tb ?_ | refine sLen tb ?_ | refine sFd tb ?_ | refine sBd tb ?_ | refine sBa tb ?_); try (first | refine gl tb ?_ | refine gg tb ?_ | refine ll tb ?_ | refine lg tb ?_))
                exact G.met _ (by repeat (first | exact Sub.nil _ | refine Sub.cons rfl ?_)) ⟨hx2, hb2, rfl⟩
              · rename_i hold
                have hn9 : ¬ r = 9 := by omega
                clear hold
                try (first | refine gl tb ?_ | refine gg tb ?_ | refine ll tb ?_ | refine lg tb ?_); repeat ((first | refine G.condT rfl ?_ | refine G.condF rfl ?_ | refine sFa tb ?_ | refine sLd tb ?_ | refine sLa tb ?_ | refine sLen tb ?_ | refine sFd tb ?_ | refine sBd tb ?_ | refine sBa tb ?_); try (first | refine gl tb ?_ | refine gg tb ?_ | refine ll tb ?_ | refine lg tb ?_))
                first | refine G.condD rfl (fun hc => ?_) (fun hc => ?_) | refine G.condN rfl (fun hc => ?_) (fun hc => ?_) | refine G.cond rfl (fun hc => ?_) (fun hc => ?_)
                · have h128 : (s.getD i 0).toNat < 128 := by
                    rcases Nat.lt_or_ge (s.getD i 0).toNat 128 with h | h
                    · exact h
                    · have := hr2 h; omega
                  have hr := hr1 h128
                  have h32 : r < 32 := by omega
                  have hq : q1 (s.getD i 0) = [92, 117, 48, 48] ++ [hexS.getD (r / 16) 0] ++ [hexS.getD (r % 16) 0] := by
                    rw [q1_of, ← hr, if_neg (by omega), if_neg (by omega), if_neg (by omega), if_neg (by omega), if_pos (by omega)]; rfl
                  rw [hpa hz h128, hq] at hpl ⊢
                  simp only [List.length_append, List.length_cons, List.length_nil] at hpl
                  try (first | refine gl tb ?_ | refine gg tb ?_ | refine ll tb ?_ | refine lg tb ?_); repeat ((first | refine G.condT rfl ?_ | refine G.condF rfl ?_ | refine sFa tb ?_ | refine sLd tb ?_ | refine sLa tb ?_ | refine sLen tb ?_ | refine sFd tb ?_ | refine sBd tb ?_ | refine sBa tb ?_); try (first | refine gl tb ?_ | refine gg tb ?_ | refine ll tb ?_ | refine lg tb ?_))
                  refine G.regionM [(0, true), (1, true), (2, true), (3, true), (4, true), (5, true), (6, true), (7, true), (8, true), (9, true), (10, true), (11, true), (12, true), (13, true), (14, false)] (Ext w) (by kernel_rfl) (by kernel_rfl) rfl mixed (hx01.drew') rfl ?_
                  try (refine mm tb ?_); repeat ((first | refine dFa tb ?_ | refine dLd tb ?_ | refine dLa tb ?_ | refine dLen tb ?_ | refine dFd tb ?_); try (refine mm tb ?_))
                  refine GM.read (fun w' hS => Step.quo (r := ((r / 16 : Nat) : Int)) rfl (Op1.of rfl (by first | exact fun _ => rfl | exact fun h => h | exact fun h => bL h | exact fun h => bL (bL h) | exact fun h => bL (bL (bL h)))) (Op1.of rfl (by first | exact fun _ => rfl | exact fun h => h | exact fun h => bL h | exact fun h => bL (bL h) | exact fun h => bL (bL (bL h)))) (fun _ => by omega) (by rw [show (r : Int).tdiv 16 = ((r / 16 : Nat) : Int) from rfl]; exact wrap_i32 (by omega) (by omega)) rfl ⟨rfl, rfl⟩) rfl rfl ?_
                  try (refine mm tb ?_); repeat ((first | refine dFa tb ?_ | refine dLd tb ?_ | refine dLa tb ?_ | refine dLen tb ?_ | refine dFd tb ?_); try (refine mm tb ?_))
                  refine GM.read (fun w' hS => Step.quo (r := ((r / 16 : Nat) : Int)) rfl (Op1.of rfl (by first | exact fun _ => rfl | exact fun h => h | exact fun h => bL h | exact fun h => bL (bL h) | exact fun h => bL (bL (bL h)))) (Op1.of rfl (by first | exact fun _ => rfl | exact fun h => h | exact fun h => bL h | exact fun h => bL (bL h) | exact fun h => bL (bL (bL h)))) (fun _ => by omega) (by rw [show (r : Int).tdiv 16 = ((r / 16 : Nat) : Int) from rfl]; exact wrap_i32 (by omega) (by omega)) rfl ⟨rfl, rfl⟩) rfl rfl ?_
                  refine dAr (r := ((r / 16 + 1 : Nat) : Int)) ?_ (hp := (wrap_i32 (n := ((r / 16 : Nat) : Int) + 1) (by omega) (by omega)).trans (by omega))
                  refine GM.read (fun w' hS => Step.sliceSk tb (r / 16) (r / 16 + 1) rfl (Op1.of rfl (by first | exact fun _ => rfl | exact fun h => h | exact fun h => bL h | exact fun h => bL (bL h) | exact fun h => bL (bL (bL h)))) (Op1.of rfl (by first | exact fun _ => rfl | exact fun h => h | exact fun h => bL h | exact fun h => bL (bL h) | exact fun h => bL (bL (bL h)))) (Op1.of rfl (by first | exact fun _ => rfl | exact fun h => h | exact fun h => bL h | exact fun h => bL (bL h) | exact fun h => bL (bL (bL h)))) rfl (fun _ => ⟨rfl, rfl, by omega, by simp only [List.length_cons, List.length_nil]; omega⟩) rfl ⟨rfl, rfl⟩) rfl rfl ?_
                  rw [hexS_cut (r / 16) (by omega)]
                  refine dCat tb ?_
                  try (refine mm tb ?_); repeat ((first | refine dFa tb ?_ | refine dLd tb ?_ | refine dLa tb ?_ | refine dLen tb ?_ | refine dFd tb ?_); try (refine mm tb ?_))
                  refine GM.read (fun w' hS => Step.rem (r := ((r % 16 : Nat) : Int)) rfl (Op1.of rfl (by first | exact fun _ => rfl | exact fun h => h | exact fun h => bL h | exact fun h => bL (bL h) | exact fun h => bL (bL (bL h)))) (Op1.of rfl (by first | exact fun _ => rfl | exact fun h => h | exact fun h => bL h | exact fun h => bL (bL h) | exact fun h => bL (bL (bL h)))) (fun _ => by omega) rfl rfl ⟨rfl, rfl⟩) rfl rfl ?_
                  try (refine mm tb ?_); repeat ((first | refine dFa tb ?_ | refine dLd tb ?_ | refine dLa tb ?_ | refine dLen tb ?_ | refine dFd tb ?_); try (refine mm tb ?_))
                  refine GM.read (fun w' hS => Step.rem (r := ((r % 16 : Nat) : Int)) rfl (Op1.of rfl (by first | exact fun _ => rfl | exact fun h => h | exact fun h => bL h | exact fun h => bL (bL h) | exact fun h => bL (bL (bL h)))) (Op1.of rfl (by first | exact fun _ => rfl | exact fun h => h | exact fun h => bL h | exact fun h => bL (bL h) | exact fun h => bL (bL (bL h)))) (fun _ => by omega) rfl rfl ⟨rfl, rfl⟩) rfl rfl ?_
                  refine dAr (r := ((r % 16 + 1 : Nat) : Int)) ?_ (hp := (wrap_i32 (n := ((r % 16 : Nat) : Int) + 1) (by omega) (by omega)).trans (by omega))
                  refine GM.read (fun w' hS => Step.sliceSk tb (r % 16) (r % 16 + 1) rfl (Op1.of rfl (by first | exact fun _ => rfl | exact fun h => h | exact fun h => bL h | exact fun h => bL (bL h) | exact fun h => bL (bL (bL h)))) (Op1.of rfl (by first | exact fun _ => rfl | exact fun h => h | exact fun h => bL h | exact fun h => bL (bL h) | exact fun h => bL (bL (bL h)))) (Op1.of rfl (by first | exact fun _ => rfl | exact fun h => h | exact fun h => bL h | exact fun h => bL (bL h) | exact fun h => bL (bL (bL h)))) rfl (fun _ => ⟨rfl, rfl, by omega, by simp only [List.length_cons, List.length_nil]; omega⟩) rfl ⟨rfl, rfl⟩) rfl rfl ?_
                  rw [hexS_cut (r % 16) (by omega)]
                  refine dCat tb ?_
                  try (refine mm tb ?_); repeat ((first | refine dFa tb ?_ | refine dLd tb ?_ | refine dLa tb ?_ | refine dLen tb ?_ | refine dFd tb ?_); try (refine mm tb ?_))
                  refine GM.eff (Step.callF rfl rfl rfl c30 rfl (bws_ok w.heap.size w.heap.size acc _ _ (hb1.ext (Ext.drew W1)) (by simp only [List.length_append, List.length_cons, List.length_nil]; omega) (hx01.drew').size) ?_)
                  rintro _ W2 ⟨rfl, hb2, hx2⟩
                  have hx2 : Ext w W2 := Below.trans (B := w.heap.size) hx01.drew' hx2
                  refine ⟨hx2, GM.nil ?_⟩
                  try (first | refine gl tb ?_ | refine gg tb ?_ | refine ll tb ?_ | refine lg tb ?_); repeat ((first | refine G.condT rfl ?_ | refine G.condF rfl ?_ | refine sFa tb ?_ | refine sLd tb ?_ | refine sLa tb ?_ | refine sLen tb ?_ | refine sFd tb ?_ | refine sBd tb ?_ | refine sBa tb ?_); try (first | refine gl tb ?_ | refine gg tb ?_ | refine ll tb ?_ | refine lg tb ?_))
                  exact G.met _ (by repeat (first | exact Sub.nil _ | refine Sub.cons rfl ?_)) ⟨hx2, hb2, rfl⟩
                · have hbig : ¬ r < 32 := by omega
                  have hpe : pieceQ s i = (s.drop i).take (i + n - i) := by
                    rw [Nat.add_sub_cancel_left]
                    rcases Nat.lt_or_ge (s.getD i 0).toNat 128 with h128 | h
                    · have hr := hr1 h128
                      rw [hpa hz h128, q1_of, ← hr, if_neg (by omega), if_neg (by omega), if_neg (by omega), if_neg (by omega), if_neg (by omega), hn, u8len_asc hlt h128, drop_at hlt]; rfl
                    · rw [hpb hz h, hn]
                  rw [hpe] at hpl ⊢
                  try (first | refine gl tb ?_ | refine gg tb ?_ | refine ll tb ?_ | refine lg tb ?_); repeat ((first | refine G.condT rfl ?_ | refine G.condF rfl ?_ | refine sFa tb ?_ | refine sLd tb ?_ | refine sLa tb ?_ | refine sLen tb ?_ | refine sFd tb ?_ | refine sBd tb ?_ | refine sBa tb ?_); try (first | refine gl tb ?_ | refine gg tb ?_ | refine ll tb ?_ | refine lg tb ?_))
                  refine sAd tb ?_
                  refine GL.cons (Step.sliceS tb i (i + n) rfl (Op1.of rfl (by first | exact fun _ => rfl | exact fun h => h | exact fun h => bL h | exact fun h => bL (bL h) | exact fun h => bL (bL (bL h)))) (Op1.of rfl (by first | exact fun _ => rfl | exact fun h => h | exact fun h => bL h | exact fun h => bL (bL h) | exact fun h => bL (bL (bL h)))) (Op1.of rfl (by first | exact fun _ => rfl | exact fun h => h | exact fun h => bL h | exact fun h => bL (bL h) | exact fun h => bL (bL (bL h)))) rfl (fun _ => ⟨rfl, by omega, by omega, by omega⟩) rfl ?_)
                  refine sCall c30 (bws_ok w.heap.size w.heap.size acc ((s.drop i).take (i + n - i)) W1 hb1 (by omega) hx01.size) ?_
                  rintro _ W2 ⟨rfl, hb2, hx2⟩
                  have hx2 : Ext w W2 := Below.trans (B := w.heap.size) hx01 hx2
                  try (first | refine gl tb ?_ | refine gg tb ?_ | refine ll tb ?_ | refine lg tb ?_); repeat ((first | refine G.condT rfl ?_ | refine G.condF rfl ?_ | refine sFa tb ?_ | refine sLd tb ?_ | refine sLa tb ?_ | refine sLen tb ?_ | refine sFd tb ?_ | refine sBd tb ?_ | refine sBa tb ?_); try (first | refine gl tb ?_ | refine gg tb ?_ | refine ll tb ?_ | refine lg tb ?_))
                  exact G.met _ (by repeat (first | exact Sub.nil _ | refine Sub.cons rfl ?_)) ⟨hx2, hb2, rfl⟩
  · have hie : i = s.length := by omega
    rw [hie, Nat.sub_self] at hacc
    simp only [quoteF, List.append_nil] at hacc
    try (first | refine gl tb ?_ | refine gg tb ?_ | refine ll tb ?_ | refine lg tb ?_); repeat ((first | refine G.condT rfl ?_ | refine G.condF rfl ?_ | refine sFa tb ?_ | refine sLd tb ?_ | refine sLa tb ?_ | refine sLen tb ?_ | refine sFd tb ?_ | refine sBd tb ?_ | refine sBa tb ?_); try (first | refine gl tb ?_ | refine gg tb ?_ | refine ll tb ?_ | refine lg tb ?_))
    refine sCall c28 (bwb_ok w.heap.size w.heap.size acc 34 W hb (by omega) hx.size) ?_
    rintro _ W2 ⟨rfl, hb2, hx2⟩
    have hx2 : Ext w W2 := Below.trans (B := w.heap.size) hx hx2
    try (first | refine gl tb ?_ | refine gg tb ?_ | refine ll tb ?_ | refine lg tb ?_); repeat ((first | refine G.condT rfl ?_ | refine G.condF rfl ?_ | refine sFa tb ?_ | refine sLd tb ?_ | refine sLa tb ?_ | refine sLen tb ?_ | refine sFd tb ?_ | refine sBd tb ?_ | refine sBa tb ?_); try (first | refine gl tb ?_ | refine gg tb ?_ | refine ll tb ?_ | refine lg tb ?_))
    refine sCall c31 (bst_ok w.heap.size w.heap.size _ W2 hb2) ?_
    rintro _ W3 ⟨rfl, hx3⟩
    try (first | refine gl tb ?_ | refine gg tb ?_ | refine ll tb ?_ | refine lg tb ?_); repeat ((first | refine G.condT rfl ?_ | refine G.condF rfl ?_ | refine sFa tb ?_ | refine sLd tb ?_ | refine sLa tb ?_ | refine sLen tb ?_ | refine sFd tb ?_ | refine sBd tb ?_ | refine sBa tb ?_); try (first | refine gl tb ?_ | refine gg tb ?_ | refine ll tb ?_ | refine lg tb ?_))
    refine G.ret1 rfl rfl rfl rfl ?_
    exact ⟨by rw [hacc], hx2.trans hx3⟩
end Go.Proofs.YtlaingmhdgpkdaaGreatDoor
