/- labels: a value in quotes, walked. -/
import Derived.Test.YtfffblopkaandaaDoorLW
import Derived.Test.YtfffblopkaandaaDoorV12
open Go Go.Vg Go.RowKit Go.Proofs Go.Proofs.YtfffblopkaandaaDoor
namespace Go.Proofs.YtfffblopkaandaaDoor
set_option linter.unusedSimpArgs false

abbrev Bld (w : World) (B b : Nat) (l : List UInt8) : Prop := Lib.IsBuilder 94 5 B b (Lib.byteCells l) w
theorem wbyte_ok (B b : Nat) (l : List UInt8) (c : UInt8) (w : World) (h : Bld w B b l) (hl : l.length + 1 ≤ 140737488355328) (hB : B ≤ w.heap.size) :
    Ret Tryd.prog 83 ⟨[ptr b, U c]⟩ w fun r w' => r = .nilIface ∧ Bld w' B b (l ++ [c]) ∧ Below B w w' :=
  Calls.mono (Any.Builder_WriteByte Tryd.lays167 Tryd.Builder_Extra_167 B b (Lib.byteCells l) c.toNat w h (by rw [Lib.byteCells_length]; exact hl) hB) fun _ _ ⟨he, h1, h2⟩ =>
    ⟨_, he, rfl, .inr (by rw [Lib.byteCells_append]; exact h1), h2⟩
theorem wstr_ok (B b : Nat) (l s : List UInt8) (w : World) (h : Bld w B b l) (hl : l.length + s.length ≤ 140737488355328) (hB : B ≤ w.heap.size) :
    Ret Tryd.prog 84 ⟨[ptr b, S s]⟩ w fun _ w' => Bld w' B b (l ++ s) ∧ Below B w w' :=
  Calls.mono (Any.Builder_WriteString Tryd.lays166 Tryd.Builder_Extra_156 B b (Lib.byteCells l) ⟨⟨s⟩⟩ w h (by rw [Lib.byteCells_length]; exact hl) hB) fun _ _ ⟨he, h1, h2⟩ =>
    ⟨_, he, .inr (by rw [Lib.byteCells_append]; exact h1), h2⟩
theorem bstr_ok (B b : Nat) (l : List UInt8) (w : World) (h : Bld w B b l) (hB : B ≤ w.heap.size) :
    Ret Tryd.prog 85 ⟨[ptr b]⟩ w fun r w' => r = S l ∧ Below B w w' :=
  Calls.mono (Any.Builder_String_any Tryd.lays169 Tryd.Builder_Extra_156 B b l w h hB) fun _ _ ⟨he, h2⟩ => ⟨_, he, rfl, h2⟩

def escB (c : UInt8) : List UInt8 := if (c.toNat : Int) = 34 ∨ (c.toNat : Int) = 92 then [92, c] else if (c.toNat : Int) = 10 then [92, 110] else [c]
def escL (s : List UInt8) : List UInt8 := s.flatMap escB
def quoteL (s : List UInt8) : List UInt8 := 34 :: escL s ++ [34]
theorem escL_len (s : List UInt8) : (escL s).length ≤ 2 * s.length := by
  induction s with
  | nil => simp [escL]
  | cons a r ih =>
    have : (escB a).length ≤ 2 := by unfold escB; split <;> (try split) <;> simp
    simp only [escL, List.flatMap_cons, List.length_append, List.length_cons] at ih ⊢; omega
theorem escL_snoc (s : List UInt8) (c : UInt8) : escL (s ++ [c]) = escL s ++ escB c := by simp [escL]
theorem take_byte {s : List UInt8} {k : Nat} (h : k < s.length) : s.take (k + 1) = s.take k ++ [s.getD k 0] := by
  rw [List.take_succ_eq_append_getElem h]; simp [List.getD, h]

theorem quoted_ok (s : List UInt8) (w : World) (hs : s.length ≤ 1000000) :
    Ret Tryd.prog 70 ⟨[S s]⟩ w fun r w' => r = S (quoteL s) ∧ Ext w w' := by
  refine ret_of_G Tryd.func70 rfl Tryd.ntmps70 rfl ?_
  simp only [argEnv]
  try (first | refine gl tb ?_ | refine gg tb ?_ | refine ll tb ?_ | refine lg tb ?_); repeat ((first | refine G.condT rfl ?_ | refine G.condF rfl ?_); try (first | refine gl tb ?_ | refine gg tb ?_ | refine ll tb ?_ | refine lg tb ?_))
  refine GL.cons (Step.allocE tb rfl rfl rfl rfl ?_)
  have hx1 : Ext w (w.alloc (.cells ⟨[.pointer none, .slice none 0 0]⟩ 94)) := Ext.alloc _ _
  have hb1 : Bld (w.alloc (.cells ⟨[.pointer none, .slice none 0 0]⟩ 94)) w.heap.size w.heap.size [] :=
    .inl ⟨Nat.le_refl _, _, heap_alloc_new _ _, World.ownsRow_nil _ _ _ _, by simp [Value.ownBlock]⟩
  generalize w.alloc (.cells ⟨[.pointer none, .slice none 0 0]⟩ 94) = w1 at hx1 hb1 ⊢
  try (first | refine gl tb ?_ | refine gg tb ?_ | refine ll tb ?_ | refine lg tb ?_); repeat ((first | refine G.condT rfl ?_ | refine G.condF rfl ?_); try (first | refine gl tb ?_ | refine gg tb ?_ | refine ll tb ?_ | refine lg tb ?_))
  refine GL.cons (Step.callF rfl rfl rfl c83 rfl (wbyte_ok w.heap.size w.heap.size [] 34 w1 hb1 (by simp) hx1.size) ?_)
  rintro _ w2 ⟨rfl, hb2, hx2⟩
  have hx2 : Ext w w2 := Below.trans (B := w.heap.size) hx1 hx2
  try (first | refine gl tb ?_ | refine gg tb ?_ | refine ll tb ?_ | refine lg tb ?_); repeat ((first | refine G.condT rfl ?_ | refine G.condF rfl ?_); try (first | refine gl tb ?_ | refine gg tb ?_ | refine ll tb ?_ | refine lg tb ?_))
  refine (G.loop (fun k : Nat => [(0, none, S s), (3, none, ptr w.heap.size), (8, none, .int .i64 s.length), (9, none, .int .i64 k)]) (fun k w' => Ext w w' ∧ k ≤ s.length ∧ Bld w' w.heap.size w.heap.size (34 :: escL (s.take k))) (fun k => s.length - k) 0 (by repeat (first | exact Sub.nil _ | refine Sub.cons rfl ?_)) ⟨hx2, by omega, hb2⟩ ?_)
  clear hb2 hx2 hb1 hx1
  rintro k w3 ⟨hx3, hk, hb3⟩
  have hel := escL_len (s.take k)
  rw [List.length_take] at hel
  try (first | refine gl tb ?_ | refine gg tb ?_ | refine ll tb ?_ | refine lg tb ?_); repeat ((first | refine G.condT rfl ?_ | refine G.condF rfl ?_); try (first | refine gl tb ?_ | refine gg tb ?_ | refine ll tb ?_ | refine lg tb ?_))
  first | refine G.condD rfl (fun hc => ?_) (fun hc => ?_) | refine G.condN rfl (fun hc => ?_) (fun hc => ?_) | refine G.cond rfl (fun hc => ?_) (fun hc => ?_)
  · have hlt : k < s.length := by omega
    have hes : escL (s.take (k + 1)) = escL (s.take k) ++ escB (s.getD k 0) := by rw [take_byte hlt, escL_snoc]
    try (first | refine gl tb ?_ | refine gg tb ?_ | refine ll tb ?_ | refine lg tb ?_); repeat ((first | refine G.condT rfl ?_ | refine G.condF rfl ?_); try (first | refine gl tb ?_ | refine gg tb ?_ | refine ll tb ?_ | refine lg tb ?_))
    refine GL.cons (Step.indexS tb k rfl (Op1.of rfl (by first | exact fun _ => rfl | exact fun h => h | exact fun h => bL h | exact fun h => bL (bL h) | exact fun h => bL (bL (bL h)))) (Op1.of rfl (by first | exact fun _ => rfl | exact fun h => h | exact fun h => bL h | exact fun h => bL (bL h) | exact fun h => bL (bL (bL h)))) rfl (fun _ => ⟨by omega, by omega⟩) rfl ?_)
    generalize s.getD k 0 = c at hes ⊢
    try (first | refine gl tb ?_ | refine gg tb ?_ | refine ll tb ?_ | refine lg tb ?_); repeat ((first | refine G.condT rfl ?_ | refine G.condF rfl ?_); try (first | refine gl tb ?_ | refine gg tb ?_ | refine ll tb ?_ | refine lg tb ?_))
    first | refine G.condD rfl (fun hc => ?_) (fun hc => ?_) | refine G.condN rfl (fun hc => ?_) (fun hc => ?_) | refine G.cond rfl (fun hc => ?_) (fun hc => ?_)
    · try (first | refine gl tb ?_ | refine gg tb ?_ | refine ll tb ?_ | refine lg tb ?_); repeat ((first | refine G.condT rfl ?_ | refine G.condF rfl ?_); try (first | refine gl tb ?_ | refine gg tb ?_ | refine ll tb ?_ | refine lg tb ?_))
      have hc0 := hc
      first | refine G.condD rfl (fun hc => ?_) (fun hc => ?_) | refine G.condN rfl (fun hc => ?_) (fun hc => ?_) | refine G.cond rfl (fun hc => ?_) (fun hc => ?_)
      · try (first | refine gl tb ?_ | refine gg tb ?_ | refine ll tb ?_ | refine lg tb ?_); repeat ((first | refine G.condT rfl ?_ | refine G.condF rfl ?_); try (first | refine gl tb ?_ | refine gg tb ?_ | refine ll tb ?_ | refine lg tb ?_))
        have he : escB c = [92, c] := by unfold escB; rw [if_pos (by omega)]
        refine GL.cons (Step.callF rfl rfl rfl c83 rfl (wbyte_ok w.heap.size w.heap.size _ 92 w3 hb3 (by simp only [List.length_cons]; omega) hx3.size) ?_)
        rintro _ w4 ⟨rfl, hb4, hx4⟩
        have hx4 : Ext w w4 := Below.trans (B := w.heap.size) hx3 hx4
        try (first | refine gl tb ?_ | refine gg tb ?_ | refine ll tb ?_ | refine lg tb ?_); repeat ((first | refine G.condT rfl ?_ | refine G.condF rfl ?_); try (first | refine gl tb ?_ | refine gg tb ?_ | refine ll tb ?_ | refine lg tb ?_))
        refine GL.cons (Step.callF rfl rfl rfl c83 rfl (wbyte_ok w.heap.size w.heap.size _ c w4 hb4 (by simp only [List.length_cons, List.length_append, List.length_nil]; omega) hx4.size) ?_)
        rintro _ w5 ⟨rfl, hb5, hx5⟩
        have hx5 : Ext w w5 := Below.trans (B := w.heap.size) hx4 hx5
        try (first | refine gl tb ?_ | refine gg tb ?_ | refine ll tb ?_ | refine lg tb ?_); repeat ((first | refine G.condT rfl ?_ | refine G.condF rfl ?_); try (first | refine gl tb ?_ | refine gg tb ?_ | refine ll tb ?_ | refine lg tb ?_))
        refine GL.cons (Step.arith rfl (Op1.of rfl (by first | exact fun _ => rfl | exact fun h => h | exact fun h => bL h | exact fun h => bL (bL h) | exact fun h => bL (bL (bL h)))) (Op1.of rfl (by first | exact fun _ => rfl | exact fun h => h | exact fun h => bL h | exact fun h => bL (bL h) | exact fun h => bL (bL (bL h)))) (wrap_i64 (by omega) (by omega)) rfl ?_)
        try (first | refine gl tb ?_ | refine gg tb ?_ | refine ll tb ?_ | refine lg tb ?_); repeat ((first | refine G.condT rfl ?_ | refine G.condF rfl ?_); try (first | refine gl tb ?_ | refine gg tb ?_ | refine ll tb ?_ | refine lg tb ?_))
        exact G.lp (k + 1) (by repeat (first | exact Sub.nil _ | refine Sub.cons rfl ?_)) ⟨hx5, by omega, by rw [hes, he]; simpa using hb5⟩ (by omega)
      · exact absurd hc0 hc
    · have hc1 := hc
      try (first | refine gl tb ?_ | refine gg tb ?_ | refine ll tb ?_ | refine lg tb ?_); repeat ((first | refine G.condT rfl ?_ | refine G.condF rfl ?_); try (first | refine gl tb ?_ | refine gg tb ?_ | refine ll tb ?_ | refine lg tb ?_))
      first | refine G.condD rfl (fun hc => ?_) (fun hc => ?_) | refine G.condN rfl (fun hc => ?_) (fun hc => ?_) | refine G.cond rfl (fun hc => ?_) (fun hc => ?_)
      · try (first | refine gl tb ?_ | refine gg tb ?_ | refine ll tb ?_ | refine lg tb ?_); repeat ((first | refine G.condT rfl ?_ | refine G.condF rfl ?_); try (first | refine gl tb ?_ | refine gg tb ?_ | refine ll tb ?_ | refine lg tb ?_))
        have he : escB c = [92, c] := by unfold escB; rw [if_pos (by omega)]
        refine GL.cons (Step.callF rfl rfl rfl c83 rfl (wbyte_ok w.heap.size w.heap.size _ 92 w3 hb3 (by simp only [List.length_cons]; omega) hx3.size) ?_)
        rintro _ w4 ⟨rfl, hb4, hx4⟩
        have hx4 : Ext w w4 := Below.trans (B := w.heap.size) hx3 hx4
        try (first | refine gl tb ?_ | refine gg tb ?_ | refine ll tb ?_ | refine lg tb ?_); repeat ((first | refine G.condT rfl ?_ | refine G.condF rfl ?_); try (first | refine gl tb ?_ | refine gg tb ?_ | refine ll tb ?_ | refine lg tb ?_))
        refine GL.cons (Step.callF rfl rfl rfl c83 rfl (wbyte_ok w.heap.size w.heap.size _ c w4 hb4 (by simp only [List.length_cons, List.length_append, List.length_nil]; omega) hx4.size) ?_)
        rintro _ w5 ⟨rfl, hb5, hx5⟩
        have hx5 : Ext w w5 := Below.trans (B := w.heap.size) hx4 hx5
        try (first | refine gl tb ?_ | refine gg tb ?_ | refine ll tb ?_ | refine lg tb ?_); repeat ((first | refine G.condT rfl ?_ | refine G.condF rfl ?_); try (first | refine gl tb ?_ | refine gg tb ?_ | refine ll tb ?_ | refine lg tb ?_))
        refine GL.cons (Step.arith rfl (Op1.of rfl (by first | exact fun _ => rfl | exact fun h => h | exact fun h => bL h | exact fun h => bL (bL h) | exact fun h => bL (bL (bL h)))) (Op1.of rfl (by first | exact fun _ => rfl | exact fun h => h | exact fun h => bL h | exact fun h => bL (bL h) | exact fun h => bL (bL (bL h)))) (wrap_i64 (by omega) (by omega)) rfl ?_)
        try (first | refine gl tb ?_ | refine gg tb ?_ | refine ll tb ?_ | refine lg tb ?_); repeat ((first | refine G.condT rfl ?_ | refine G.condF rfl ?_); try (first | refine gl tb ?_ | refine gg tb ?_ | refine ll tb ?_ | refine lg tb ?_))
        exact G.lp (k + 1) (by repeat (first | exact Sub.nil _ | refine Sub.cons rfl ?_)) ⟨hx5, by omega, by rw [hes, he]; simpa using hb5⟩ (by omega)
      · have hc2 := hc
        try (first | refine gl tb ?_ | refine gg tb ?_ | refine ll tb ?_ | refine lg tb ?_); repeat ((first | refine G.condT rfl ?_ | refine G.condF rfl ?_); try (first | refine gl tb ?_ | refine gg tb ?_ | refine ll tb ?_ | refine lg tb ?_))
        first | refine G.condD rfl (fun hc => ?_) (fun hc => ?_) | refine G.condN rfl (fun hc => ?_) (fun hc => ?_) | refine G.cond rfl (fun hc => ?_) (fun hc => ?_)
        · try (first | refine gl tb ?_ | refine gg tb ?_ | refine ll tb ?_ | refine lg tb ?_); repeat ((first | refine G.condT rfl ?_ | refine G.condF rfl ?_); try (first | refine gl tb ?_ | refine gg tb ?_ | refine ll tb ?_ | refine lg tb ?_))
          have he : escB c = [92, 110] := by unfold escB; rw [if_neg (by omega)]; rw [if_pos hc]
          refine GL.cons (Step.callF rfl rfl rfl c84 rfl (wstr_ok w.heap.size w.heap.size _ [92, 110] w3 hb3 (by simp only [List.length_cons, List.length_nil]; omega) hx3.size) ?_)
          rintro _ w4 ⟨hb4, hx4⟩
          have hx4 : Ext w w4 := Below.trans (B := w.heap.size) hx3 hx4
          try (first | refine gl tb ?_ | refine gg tb ?_ | refine ll tb ?_ | refine lg tb ?_); repeat ((first | refine G.condT rfl ?_ | refine G.condF rfl ?_); try (first | refine gl tb ?_ | refine gg tb ?_ | refine ll tb ?_ | refine lg tb ?_))
          refine GL.cons (Step.arith rfl (Op1.of rfl (by first | exact fun _ => rfl | exact fun h => h | exact fun h => bL h | exact fun h => bL (bL h) | exact fun h => bL (bL (bL h)))) (Op1.of rfl (by first | exact fun _ => rfl | exact fun h => h | exact fun h => bL h | exact fun h => bL (bL h) | exact fun h => bL (bL (bL h)))) (wrap_i64 (by omega) (by omega)) rfl ?_)
          try (first | refine gl tb ?_ | refine gg tb ?_ | refine ll tb ?_ | refine lg tb ?_); repeat ((first | refine G.condT rfl ?_ | refine G.condF rfl ?_); try (first | refine gl tb ?_ | refine gg tb ?_ | refine ll tb ?_ | refine lg tb ?_))
          exact G.lp (k + 1) (by repeat (first | exact Sub.nil _ | refine Sub.cons rfl ?_)) ⟨hx4, by omega, by rw [hes, he]; simpa using hb4⟩ (by omega)
        · try (first | refine gl tb ?_ | refine gg tb ?_ | refine ll tb ?_ | refine lg tb ?_); repeat ((first | refine G.condT rfl ?_ | refine G.condF rfl ?_); try (first | refine gl tb ?_ | refine gg tb ?_ | refine ll tb ?_ | refine lg tb ?_))
          have he : escB c = [c] := by unfold escB; rw [if_neg (by omega)]; rw [if_neg hc]
          refine GL.cons (Step.callF rfl rfl rfl c83 rfl (wbyte_ok w.heap.size w.heap.size _ c w3 hb3 (by simp only [List.length_cons]; omega) hx3.size) ?_)
          rintro _ w4 ⟨rfl, hb4, hx4⟩
          have hx4 : Ext w w4 := Below.trans (B := w.heap.size) hx3 hx4
          try (first | refine gl tb ?_ | refine gg tb ?_ | refine ll tb ?_ | refine lg tb ?_); repeat ((first | refine G.condT rfl ?_ | refine G.condF rfl ?_); try (first | refine gl tb ?_ | refine gg tb ?_ | refine ll tb ?_ | refine lg tb ?_))
          refine GL.cons (Step.arith rfl (Op1.of rfl (by first | exact fun _ => rfl | exact fun h => h | exact fun h => bL h | exact fun h => bL (bL h) | exact fun h => bL (bL (bL h)))) (Op1.of rfl (by first | exact fun _ => rfl | exact fun h => h | exact fun h => bL h | exact fun h => bL (bL h) | exact fun h => bL (bL (bL h)))) (wrap_i64 (by omega) (by omega)) rfl ?_)
          try (first | refine gl tb ?_ | refine gg tb ?_ | refine ll tb ?_ | refine lg tb ?_); repeat ((first | refine G.condT rfl ?_ | refine G.condF rfl ?_); try (first | refine gl tb ?_ | refine gg tb ?_ | refine ll tb ?_ | refine lg tb ?_))
          exact G.lp (k + 1) (by repeat (first | exact Sub.nil _ | refine Sub.cons rfl ?_)) ⟨hx4, by omega, by rw [hes, he]; simpa using hb4⟩ (by omega)
  · obtain rfl : k = s.length := by omega
    rw [List.take_length] at hb3 hel
    try (first | refine gl tb ?_ | refine gg tb ?_ | refine ll tb ?_ | refine lg tb ?_); repeat ((first | refine G.condT rfl ?_ | refine G.condF rfl ?_); try (first | refine gl tb ?_ | refine gg tb ?_ | refine ll tb ?_ | refine lg tb ?_))
    refine GL.cons (Step.callF rfl rfl rfl c83 rfl (wbyte_ok w.heap.size w.heap.size _ 34 w3 hb3 (by simp only [List.length_cons]; omega) hx3.size) ?_)
    rintro _ w4 ⟨rfl, hb4, hx4⟩
    have hx4 : Ext w w4 := Below.trans (B := w.heap.size) hx3 hx4
    try (first | refine gl tb ?_ | refine gg tb ?_ | refine ll tb ?_ | refine lg tb ?_); repeat ((first | refine G.condT rfl ?_ | refine G.condF rfl ?_); try (first | refine gl tb ?_ | refine gg tb ?_ | refine ll tb ?_ | refine lg tb ?_))
    refine GL.cons (Step.callF rfl rfl rfl c85 rfl (bstr_ok w.heap.size w.heap.size _ w4 hb4 hx4.size) ?_)
    rintro _ w5 ⟨rfl, hx5⟩
    have hx5 : Ext w w5 := Below.trans (B := w.heap.size) hx4 hx5
    try (first | refine gl tb ?_ | refine gg tb ?_ | refine ll tb ?_ | refine lg tb ?_); repeat ((first | refine G.condT rfl ?_ | refine G.condF rfl ?_); try (first | refine gl tb ?_ | refine gg tb ?_ | refine ll tb ?_ | refine lg tb ?_))
    refine G.ret1 rfl rfl rfl rfl ?_
    exact ⟨rfl, hx5⟩
end Go.Proofs.YtfffblopkaandaaDoor
