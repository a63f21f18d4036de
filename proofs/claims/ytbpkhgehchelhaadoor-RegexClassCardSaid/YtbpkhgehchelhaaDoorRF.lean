/- regex: the members of a class, walked. -/
import Derived.Test.YtbpkhgehchelhaaDoorRE
open Go Go.Vg Go.RowKit Go.Proofs Go.Proofs.YtbpkhgehchelhaaDoor
namespace Go.Proofs.YtbpkhgehchelhaaDoor
set_option linter.unusedSimpArgs false

set_option maxHeartbeats 1000000 in
theorem others_ok (w : World) (B : Nat) (v : Value) (l : List (Nat × Nat)) (h : Sp w B v l) (hl : l.length ≤ 10) (hs : Small l) :
    Ret Tryd.prog 103 ⟨[v]⟩ w fun r w' => Owns w' w.heap.size r 140 2 ((Rx.others l).map spanC) ∧ Ext w w' := by
  have hv := h.sli
  have hlen : (l.map spanC).length = l.length := List.length_map ..
  refine ret_of_G Tryd.func103 rfl Tryd.ntmps103 rfl ?_
  simp only [argEnv]
  try (first | refine gl tb ?_ | refine gg tb ?_ | refine ll tb ?_ | refine lg tb ?_); repeat ((first | refine G.condT rfl ?_ | refine G.condF rfl ?_ | refine sFa tb ?_ | refine sLd tb ?_ | refine sLa tb ?_ | refine sLen tb ?_ | refine sFd tb ?_ | refine sBd tb ?_ | refine sBa tb ?_); try (first | refine gl tb ?_ | refine gg tb ?_ | refine ll tb ?_ | refine lg tb ?_))
  rw [hlen]
  try (first | refine gl tb ?_ | refine gg tb ?_ | refine ll tb ?_ | refine lg tb ?_); repeat ((first | refine G.condT rfl ?_ | refine G.condF rfl ?_ | refine sFa tb ?_ | refine sLd tb ?_ | refine sLa tb ?_ | refine sLen tb ?_ | refine sFd tb ?_ | refine sBd tb ?_ | refine sBa tb ?_); try (first | refine gl tb ?_ | refine gg tb ?_ | refine ll tb ?_ | refine lg tb ?_))
  refine (G.loop (fun p : Nat × Nat × Value × List (Nat × Nat) => [(3, none, p.2.2.1), (4, none, .int .i32 p.2.1), (7, none, v), (8, none, .int .i64 l.length), (9, none, .int .i64 p.1)])
    (fun p W => Ext w W ∧ p.1 ≤ l.length ∧ p.2.1 ≤ 1114112 ∧ Owns W w.heap.size p.2.2.1 140 2 (p.2.2.2.map spanC) ∧ p.2.2.2.length ≤ p.1 ∧ Rx.othersL (l.drop p.1) p.2.1 p.2.2.2 = Rx.others l) (fun p => l.length - p.1)
    (0, 0, .slice none 0 0, []) (by repeat (first | exact Sub.nil _ | refine Sub.cons rfl ?_)) ⟨Ext.refl _, by simp, by simp, Owns.nil _ _ _ _, by simp, rfl⟩ ?_)
  rintro ⟨k, frm, u, acc⟩ W ⟨hx, hk, hf, hu, ha, hO⟩
  simp only at hx hk hf hu ha hO ⊢
  have hvW := hv.to hx
  try (first | refine gl tb ?_ | refine gg tb ?_ | refine ll tb ?_ | refine lg tb ?_); repeat ((first | refine G.condT rfl ?_ | refine G.condF rfl ?_ | refine sFa tb ?_ | refine sLd tb ?_ | refine sLa tb ?_ | refine sLen tb ?_ | refine sFd tb ?_ | refine sBd tb ?_ | refine sBa tb ?_); try (first | refine gl tb ?_ | refine gg tb ?_ | refine ll tb ?_ | refine lg tb ?_))
  first | refine G.condD rfl (fun hc => ?_) (fun hc => ?_) | refine G.condN rfl (fun hc => ?_) (fun hc => ?_) | refine G.cond rfl (fun hc => ?_) (fun hc => ?_)
  · have hlt : k < l.length := by omega
    have hget : (l.map spanC)[k]? = some (spanC l[k]) := by simp [hlt]
    have hsm := hs l[k] (List.getElem_mem hlt)
    have hdr : l.drop k = l[k] :: l.drop (k + 1) := List.drop_eq_getElem_cons hlt
    rw [hdr] at hO
    generalize l[k] = x at hget hsm hO
    simp only [Rx.othersL] at hO
    try (first | refine gl tb ?_ | refine gg tb ?_ | refine ll tb ?_ | refine lg tb ?_); repeat ((first | refine G.condT rfl ?_ | refine G.condF rfl ?_ | refine sFa tb ?_ | refine sLd tb ?_ | refine sLa tb ?_ | refine sLen tb ?_ | refine sFd tb ?_ | refine sBd tb ?_ | refine sIa tb k ?_); try (first | refine gl tb ?_ | refine gg tb ?_ | refine ll tb ?_ | refine lg tb ?_))
    refine sAl tb (fun W1 hb1 hs1 hx1 => ?_)
    try (first | refine gl tb ?_ | refine gg tb ?_ | refine ll tb ?_ | refine lg tb ?_); repeat ((first | refine G.condT rfl ?_ | refine G.condF rfl ?_ | refine sFa tb ?_ | refine sLd tb ?_ | refine sLa tb ?_ | refine sLen tb ?_ | refine sFd tb ?_ | refine sBd tb ?_ | refine sBa tb ?_); try (first | refine gl tb ?_ | refine gg tb ?_ | refine ll tb ?_ | refine lg tb ?_))
    refine sSt tb (fun W2 hb2 hw2 => ?_) (h1 := by simp [spanC, Value.oneCell'])
    have hx2 : Ext W W2 := hx1.ofKp hw2.kp (Nat.le_refl _)
    have hu2 := hu.to hx2
    have hbb : Bx W2 W.heap.size [.int .i32 x.1, .int .i32 x.2] := hb2
    clear hb2
    have hxx := hx.trans hx2
    have hwz := hx2.size
    have hw0 := hx.size
    try (first | refine gl tb ?_ | refine gg tb ?_ | refine ll tb ?_ | refine lg tb ?_); repeat ((first | refine G.condT rfl ?_ | refine G.condF rfl ?_ | refine sFa tb ?_ | refine sLd tb ?_ | refine sLa tb ?_ | refine sLen tb ?_ | refine sFd tb ?_ | refine sBd tb ?_ | refine sBa tb ?_); try (first | refine gl tb ?_ | refine gg tb ?_ | refine ll tb ?_ | refine lg tb ?_))
    refine G.join (fun p : Value × List (Nat × Nat) => [(3, none, p.1), (4, none, .int .i32 frm), (6, none, ptr W.heap.size), (7, none, v), (8, none, .int .i64 l.length), (9, none, .int .i64 k)])
      (fun p w' => Ext w w' ∧ Owns w' w.heap.size p.1 140 2 (p.2.map spanC) ∧ p.2.length ≤ k + 1 ∧ p.2 = (if frm < x.1 then acc ++ [(frm, x.1 - 1)] else acc) ∧ Bx w' W.heap.size [.int .i32 x.1, .int .i32 x.2]) ?_ ?_
    · rintro ⟨u', acc'⟩ W3 ⟨hx3, hu3, ha3, hacc, hb3⟩
      simp only at hu3 ha3 hacc ⊢
      rw [← hacc] at hO
      try (first | refine gl tb ?_ | refine gg tb ?_ | refine ll tb ?_ | refine lg tb ?_); repeat ((first | refine G.condT rfl ?_ | refine G.condF rfl ?_ | refine sFa tb ?_ | refine sLd tb ?_ | refine sLa tb ?_ | refine sLen tb ?_ | refine sFd tb ?_ | refine sBd tb ?_ | refine sBa tb ?_); try (first | refine gl tb ?_ | refine gg tb ?_ | refine ll tb ?_ | refine lg tb ?_))
      refine GL.cons (Step.arith (k := .i32) (a := x.2) (r := ((x.2 + 1 : Nat) : Int)) rfl (Op1.of rfl (by first | exact fun _ => rfl | exact fun h => h | exact fun h => bL h | exact fun h => bL (bL h) | exact fun h => bL (bL (bL h)))) (Op1.of rfl (by first | exact fun _ => rfl | exact fun h => h | exact fun h => bL h | exact fun h => bL (bL h) | exact fun h => bL (bL (bL h)))) (by show IntKind.i32.wrap _ = _; rw [wrap_i32 (by omega) (by omega)]; omega) rfl ?_)
      try (first | refine gl tb ?_ | refine gg tb ?_ | refine ll tb ?_ | refine lg tb ?_); repeat ((first | refine G.condT rfl ?_ | refine G.condF rfl ?_ | refine sFa tb ?_ | refine sLd tb ?_ | refine sLa tb ?_ | refine sLen tb ?_ | refine sFd tb ?_ | refine sBd tb ?_ | refine sBa tb ?_); try (first | refine gl tb ?_ | refine gg tb ?_ | refine ll tb ?_ | refine lg tb ?_))
      refine sAd tb ?_
      try (first | refine gl tb ?_ | refine gg tb ?_ | refine ll tb ?_ | refine lg tb ?_); repeat ((first | refine G.condT rfl ?_ | refine G.condF rfl ?_ | refine sFa tb ?_ | refine sLd tb ?_ | refine sLa tb ?_ | refine sLen tb ?_ | refine sFd tb ?_ | refine sBd tb ?_ | refine sBa tb ?_); try (first | refine gl tb ?_ | refine gg tb ?_ | refine ll tb ?_ | refine lg tb ?_))
      exact G.lp (x := (k, frm, u, acc)) (k + 1, x.2 + 1, u', acc') (by repeat (first | exact Sub.nil _ | refine Sub.cons rfl ?_)) ⟨hx3, by simp only; omega, by simp only; omega, hu3, ha3, hO⟩ (by simp only; omega)
    · first | refine G.condD rfl (fun hc => ?_) (fun hc => ?_) | refine G.condN rfl (fun hc => ?_) (fun hc => ?_) | refine G.cond rfl (fun hc => ?_) (fun hc => ?_)
      · have hlt2 : frm < x.1 := by omega
        try (first | refine gl tb ?_ | refine gg tb ?_ | refine ll tb ?_ | refine lg tb ?_); repeat ((first | refine G.condT rfl ?_ | refine G.condF rfl ?_ | refine sFa tb ?_ | refine sLd tb ?_ | refine sLa tb ?_ | refine sLen tb ?_ | refine sFd tb ?_ | refine sBd tb ?_ | refine sBa tb ?_); try (first | refine gl tb ?_ | refine gg tb ?_ | refine ll tb ?_ | refine lg tb ?_))
        refine GL.cons (Step.arith (k := .i32) (a := x.1) (r := ((x.1 - 1 : Nat) : Int)) rfl (Op1.of rfl (by first | exact fun _ => rfl | exact fun h => h | exact fun h => bL h | exact fun h => bL (bL h) | exact fun h => bL (bL (bL h)))) (Op1.of rfl (by first | exact fun _ => rfl | exact fun h => h | exact fun h => bL h | exact fun h => bL (bL h) | exact fun h => bL (bL (bL h)))) (by show IntKind.i32.wrap _ = _; rw [wrap_i32 (by omega) (by omega)]; omega) rfl ?_)
        try (first | refine gl tb ?_ | refine gg tb ?_ | refine ll tb ?_ | refine lg tb ?_); repeat ((first | refine G.condT rfl ?_ | refine G.condF rfl ?_ | refine sFa tb ?_ | refine sLd tb ?_ | refine sLa tb ?_ | refine sLen tb ?_ | refine sFd tb ?_ | refine sBd tb ?_ | refine sBa tb ?_); try (first | refine gl tb ?_ | refine gg tb ?_ | refine ll tb ?_ | refine lg tb ?_))
        refine sBs' tb ([spanC (frm, x.1 - 1)]) (fun v3 W3 ho hsz hx3 => ?_) (hkl := by simp [spanC])
        try (first | refine gl tb ?_ | refine gg tb ?_ | refine ll tb ?_ | refine lg tb ?_); repeat ((first | refine G.condT rfl ?_ | refine G.condF rfl ?_ | refine sFa tb ?_ | refine sLd tb ?_ | refine sLa tb ?_ | refine sLen tb ?_ | refine sFd tb ?_ | refine sBd tb ?_ | refine sBa tb ?_); try (first | refine gl tb ?_ | refine gg tb ?_ | refine ll tb ?_ | refine lg tb ?_))
        have hu3 := hu2.to hx3
        have hx03 := hxx.trans hx3
        have hz03 := hx03.size
        refine sApp tb hu3 ho.sli (fun u' W4 hu4 hg4 => ?_) (h1 := by intro y hy c hc; simp only [List.mem_cons, List.not_mem_nil, or_false] at hy; subst hy; simp only [spanC, List.mem_cons, List.not_mem_nil, or_false] at hc; rcases hc with rfl | rfl <;> rfl)
        try (first | refine gl tb ?_ | refine gg tb ?_ | refine ll tb ?_ | refine lg tb ?_); repeat ((first | refine G.condT rfl ?_ | refine G.condF rfl ?_ | refine sFa tb ?_ | refine sLd tb ?_ | refine sLa tb ?_ | refine sLen tb ?_ | refine sFd tb ?_ | refine sBd tb ?_ | refine sBa tb ?_); try (first | refine gl tb ?_ | refine gg tb ?_ | refine ll tb ?_ | refine lg tb ?_))
        refine G.met (u', acc ++ [(frm, x.1 - 1)]) (by repeat (first | exact Sub.nil _ | refine Sub.cons rfl ?_)) ⟨hg4.below _ hx03, by simpa using hu4, by simp; omega, by rw [if_pos hlt2], (hbb.to hx3).grew hg4 (by
          have := hu.ne' (Nat.le_refl _)
          exact this)⟩
      · have hlt2 : ¬ frm < x.1 := by omega
        try (first | refine gl tb ?_ | refine gg tb ?_ | refine ll tb ?_ | refine lg tb ?_); repeat ((first | refine G.condT rfl ?_ | refine G.condF rfl ?_ | refine sFa tb ?_ | refine sLd tb ?_ | refine sLa tb ?_ | refine sLen tb ?_ | refine sFd tb ?_ | refine sBd tb ?_ | refine sBa tb ?_); try (first | refine gl tb ?_ | refine gg tb ?_ | refine ll tb ?_ | refine lg tb ?_))
        exact G.met (u, acc) (by repeat (first | exact Sub.nil _ | refine Sub.cons rfl ?_)) ⟨hxx, hu2, by simp only; omega, by rw [if_neg hlt2], hbb⟩
  · have hkl : k = l.length := by omega
    subst hkl
    rw [List.drop_length] at hO
    simp only [Rx.othersL] at hO
    try (first | refine gl tb ?_ | refine gg tb ?_ | refine ll tb ?_ | refine lg tb ?_); repeat ((first | refine G.condT rfl ?_ | refine G.condF rfl ?_ | refine sFa tb ?_ | refine sLd tb ?_ | refine sLa tb ?_ | refine sLen tb ?_ | refine sFd tb ?_ | refine sBd tb ?_ | refine sBa tb ?_); try (first | refine gl tb ?_ | refine gg tb ?_ | refine ll tb ?_ | refine lg tb ?_))
    refine sBs' tb ([spanC (frm, 1114111)]) (fun v3 W3 ho hsz hx3 => ?_) (hkl := by simp [spanC])
    have hu3 := hu.to hx3
    have hx03 := hx.trans hx3
    have hz03 := hx03.size
    try (first | refine gl tb ?_ | refine gg tb ?_ | refine ll tb ?_ | refine lg tb ?_); repeat ((first | refine G.condT rfl ?_ | refine G.condF rfl ?_ | refine sFa tb ?_ | refine sLd tb ?_ | refine sLa tb ?_ | refine sLen tb ?_ | refine sFd tb ?_ | refine sBd tb ?_ | refine sBa tb ?_); try (first | refine gl tb ?_ | refine gg tb ?_ | refine ll tb ?_ | refine lg tb ?_))
    refine sApp tb hu3 ho.sli (fun u' W4 hu4 hg4 => ?_) (h1 := by intro y hy c hc; simp only [List.mem_cons, List.not_mem_nil, or_false] at hy; subst hy; simp only [spanC, List.mem_cons, List.not_mem_nil, or_false] at hc; rcases hc with rfl | rfl <;> rfl)
    try (first | refine gl tb ?_ | refine gg tb ?_ | refine ll tb ?_ | refine lg tb ?_); repeat ((first | refine G.condT rfl ?_ | refine G.condF rfl ?_ | refine sFa tb ?_ | refine sLd tb ?_ | refine sLa tb ?_ | refine sLen tb ?_ | refine sFd tb ?_ | refine sBd tb ?_ | refine sBa tb ?_); try (first | refine gl tb ?_ | refine gg tb ?_ | refine ll tb ?_ | refine lg tb ?_))
    refine G.ret1 rfl rfl rfl rfl ?_
    exact ⟨by rw [← hO]; simpa using hu4, hg4.below _ hx03⟩
end Go.Proofs.YtbpkhgehchelhaaDoor
