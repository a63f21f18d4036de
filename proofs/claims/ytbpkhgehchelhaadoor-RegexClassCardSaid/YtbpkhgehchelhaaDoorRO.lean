/- regex: programs under way; put and fork, walked. -/
import Derived.Test.YtbpkhgehchelhaaDoorRN
import Derived.Test.YtbpkhgehchelhaaDoorGV3
open Go Go.Vg Go.RowKit Go.Proofs Go.Proofs.YtbpkhgehchelhaaDoor
namespace Go.Proofs.YtbpkhgehchelhaaDoor
set_option linter.unusedSimpArgs false

theorem Bx.uniq {w : World} {b : Nat} {us vs : List Value} (h : Bx w b us) (k : Bx w b vs) : us = vs := by
  obtain ⟨t, h⟩ := h
  obtain ⟨t', k⟩ := k
  rw [h] at k
  cases k
  rfl
/-- a step's cells -/
def stC (k : Rx.K) (p : Value) : List Value := [.int .i64 k.kind, p, .int .i64 k.slot, .int .i64 k.a, .int .i64 k.b]
/-- a step's set: the tree, or none -/
def Stp (Q : Nat → Prop) (w0 : World) (k : Rx.K) (p : Value) : Prop := (k.kind = 0 ∧ Tr w0 Q (.set k.l k.neg) p) ∨ (k.kind ≠ 0 ∧ p = .pointer none)
theorem Stp.isPtr {Q : Nat → Prop} {w0 : World} {k : Rx.K} {p : Value} (h : Stp Q w0 k p) : ∃ a, p = .pointer a := by
  rcases h with ⟨_, h⟩ | ⟨_, h⟩
  · obtain ⟨b, rfl⟩ := h.isPtr
    exact ⟨_, rfl⟩
  · exact ⟨_, h⟩
theorem stC_len (k : Rx.K) (p : Value) : (stC k p).length = 5 := rfl
/-- steps in memory -/
structure Sts (P Q : Nat → Prop) (w0 w : World) (mb : Nat) (v : Value) (ps : List Value) (st : List Rx.K) : Prop where
  ow : Owns w (mb + 1) v 75 5 (List.zipWith stC st ps)
  len : ps.length = st.length
  tr : ∀ (i : Nat) (k : Rx.K) (p : Value), st[i]? = some k → ps[i]? = some p → Stp Q w0 k p
  np : ∀ g, v.ownBlock = some g → ¬ P g
/-- a maker in memory -/
structure MkS (P Q : Nat → Prop) (w0 w : World) (mb : Nat) (m : Rx.Mk) : Prop where
  kq : Kq P w0 w
  pl : ∀ g, P g → g < w0.heap.size
  sub : ∀ g, Q g → P g
  np : ¬ P mb
  ex : ∃ v ps, Bx w mb [v, .bool m.full] ∧ Sts P Q w0 w mb v ps m.st
  le : m.st.length ≤ 2000
theorem MkS.kt {P Q : Nat → Prop} {w0 w : World} {mb : Nat} {m : Rx.Mk} (h : MkS P Q w0 w mb m) : Kq Q w0 w := h.kq.mono fun g _ hq => h.sub g hq
theorem Sts.zl {P Q : Nat → Prop} {w0 w : World} {mb : Nat} {v : Value} {ps : List Value} {st : List Rx.K} (h : Sts P Q w0 w mb v ps st) : (List.zipWith stC st ps).length = st.length := by
  rw [List.length_zipWith, h.len, Nat.min_self]
theorem Sts.same {P Q : Nat → Prop} {w0 w w' : World} {mb : Nat} {v : Value} {ps : List Value} {st : List Rx.K} (h : Sts P Q w0 w mb v ps st) (hs : ∀ g, g < w.heap.size → v.ownBlock = some g → w'.heap[g]? = w.heap[g]?) : Sts P Q w0 w' mb v ps st := ⟨h.ow.same hs, h.len, h.tr, h.np⟩

set_option maxHeartbeats 2000000 in
theorem put_ok {P Q : Nat → Prop} (w0 w : World) (mb : Nat) (m : Rx.Mk) (k : Rx.K) (p : Value) (h : MkS P Q w0 w mb m) (hp : Stp Q w0 k p) :
    Ret Tryd.prog 36 ⟨[ptr mb, .agg ⟨stC k p⟩]⟩ w fun r w' => r = .int .i64 (Rx.put m k).2 ∧ MkS P Q w0 w' mb (Rx.put m k).1 := by
  obtain ⟨hkq, hpl, hsub, hnp, ⟨v, ps, hbx, hst⟩, hle⟩ := h
  obtain ⟨pa, rfl⟩ := hp.isPtr
  have hvs := hst.ow.sli
  have hzl := hst.zl
  refine ret_of_G Tryd.func36 rfl Tryd.ntmps36 rfl ?_
  simp only [argEnv]
  try (first | refine gl tb ?_ | refine gg tb ?_ | refine ll tb ?_ | refine lg tb ?_); repeat ((first | refine G.condT rfl ?_ | refine G.condF rfl ?_ | refine sFa tb ?_ | refine sLd tb ?_ | refine sLa tb ?_ | refine sLen tb ?_ | refine sFd tb ?_ | refine sBd tb ?_ | refine sBa tb ?_); try (first | refine gl tb ?_ | refine gg tb ?_ | refine ll tb ?_ | refine lg tb ?_))
  refine sBox (fun W1 hb1 hs1 hx1 => ?_)
  have hbx1 := hbx.to hx1
  have hbxl := hbx.lt
  try (first | refine gl tb ?_ | refine gg tb ?_ | refine ll tb ?_ | refine lg tb ?_); repeat ((first | refine G.condT rfl ?_ | refine G.condF rfl ?_ | refine sFa tb ?_ | refine sLd tb ?_ | refine sLa tb ?_ | refine sLen tb ?_ | refine sFd tb ?_ | refine sBd tb ?_ | refine sBa tb ?_); try (first | refine gl tb ?_ | refine gg tb ?_ | refine ll tb ?_ | refine lg tb ?_))
  rw [hzl]
  try (first | refine gl tb ?_ | refine gg tb ?_ | refine ll tb ?_ | refine lg tb ?_); repeat ((first | refine G.condT rfl ?_ | refine G.condF rfl ?_ | refine sFa tb ?_ | refine sLd tb ?_ | refine sLa tb ?_ | refine sLen tb ?_ | refine sFd tb ?_ | refine sBd tb ?_ | refine sBa tb ?_); try (first | refine gl tb ?_ | refine gg tb ?_ | refine ll tb ?_ | refine lg tb ?_))
  first | refine G.condD rfl (fun hc => ?_) (fun hc => ?_) | refine G.condN rfl (fun hc => ?_) (fun hc => ?_) | refine G.cond rfl (fun hc => ?_) (fun hc => ?_)
  · have hc1 : 2000 ≤ m.st.length := by omega
    try (first | refine gl tb ?_ | refine gg tb ?_ | refine ll tb ?_ | refine lg tb ?_); repeat ((first | refine G.condT rfl ?_ | refine G.condF rfl ?_ | refine sFa tb ?_ | refine sLd tb ?_ | refine sLa tb ?_ | refine sLen tb ?_ | refine sFd tb ?_ | refine sBd tb ?_ | refine sBa tb ?_); try (first | refine gl tb ?_ | refine gg tb ?_ | refine ll tb ?_ | refine lg tb ?_))
    refine sSf tb (fun W2 hb2 hw2 => ?_)
    try (first | refine gl tb ?_ | refine gg tb ?_ | refine ll tb ?_ | refine lg tb ?_); repeat ((first | refine G.condT rfl ?_ | refine G.condF rfl ?_ | refine sFa tb ?_ | refine sLd tb ?_ | refine sLa tb ?_ | refine sLen tb ?_ | refine sFd tb ?_ | refine sBd tb ?_ | refine sBa tb ?_); try (first | refine gl tb ?_ | refine gg tb ?_ | refine ll tb ?_ | refine lg tb ?_))
    refine G.ret1 rfl rfl rfl rfl ?_
    refine ⟨?_, (hkq.trans hx1.kq).trans (hw2.kq hnp), hpl, hsub, hnp, ⟨v, ps, ?_, ?_⟩, ?_⟩
    · unfold Rx.put; rw [if_pos hc1]; rfl
    · unfold Rx.put; rw [if_pos hc1]; exact hb2
    · unfold Rx.put; rw [if_pos hc1]
      exact hst.same fun q hq e => by
        have := (hst.ow.lt q e).1
        rw [hw2.block q (by omega), hx1.block q hq]
    · unfold Rx.put; rw [if_pos hc1]; exact hle
  · have hc1 : ¬ 2000 ≤ m.st.length := by omega
    have hpe : Rx.put m k = (⟨m.st ++ [k], m.full⟩, m.st.length) := by unfold Rx.put; rw [if_neg hc1]
    rw [hpe]
    try (first | refine gl tb ?_ | refine gg tb ?_ | refine ll tb ?_ | refine lg tb ?_); repeat ((first | refine G.condT rfl ?_ | refine G.condF rfl ?_ | refine sFa tb ?_ | refine sLd tb ?_ | refine sLa tb ?_ | refine sLen tb ?_ | refine sFd tb ?_ | refine sBd tb ?_ | refine sBa tb ?_); try (first | refine gl tb ?_ | refine gg tb ?_ | refine ll tb ?_ | refine lg tb ?_))
    refine G.regionG (fun _ => True) mixed trivial ?_
    refine GD.steps ([(0, true), (1, true), (2, true), (3, true)]) (by kernel_rfl) (by kernel_rfl) rfl ?_
    try (refine mm tb ?_); repeat ((first | refine dFa tb ?_ | refine dLd tb ?_ | refine dLa tb ?_ | refine dLen tb ?_ | refine dFd tb ?_); try (refine mm tb ?_))
    refine GM.nil ?_
    have hxd := Ext.drew W1
    have hbd := hbx1.to hxd
    have hbB : Bx W1.drew w.heap.size (stC k (.pointer pa)) := hb1.to hxd
    refine GD.join [0, 1, 2, 3, 4, 5, 6] (fun u : Value => [(0, none, ptr mb), (14, none, ptr mb), (18, none, v), (20, none, u)]) (fun u w' => Ext W1.drew w' ∧ Owns w' W1.heap.size u 75 5 [stC k (.pointer pa)]) ?_ fun meet => ?_
    rotate_left
    · refine GD.two (4) (5) (by kernel_rfl) (by kernel_rfl) rfl rfl ?_ ?_
      · refine (Step.load1 tb rfl (Op1.of rfl (by first | exact fun _ => rfl | exact fun h => h | exact fun h => bL h | exact fun h => bL (bL h) | exact fun h => bL (bL (bL h)))) rfl rfl (fun _ => hbd.c0 rfl) rfl ?_)
        refine ⟨trivial, ?_⟩
        refine GD.steps ([(5, false), (6, false)]) (by kernel_rfl) (by kernel_rfl) rfl ?_
        refine GM.eff (Step.loadA tb rfl (Op1.of rfl (by first | exact fun _ => rfl | exact fun h => h | exact fun h => bL h | exact fun h => bL (bL h) | exact fun h => bL (bL (bL h)))) rfl rfl rfl (fun _ => hbB.cells) (fun _ => rfl) rfl ⟨trivial, ?_⟩)
        refine GM.eff (Step.buildSlice tb ([stC k (.pointer pa)]) rfl rfl rfl rfl rfl rfl (by rfl) rfl (by rfl) (by rfl) (by rfl) (by simp [stC]) rfl ?_)
        intro u W2 ho2 hs2 hx2
        refine ⟨trivial, ?_⟩
        refine GM.nil ?_
        exact meet u _ _ _ rfl rfl (by repeat (first | exact Sub.nil _ | refine Sub.cons rfl ?_)) ⟨hx2, ho2⟩
      · refine (Step.loadA tb rfl (Op1.of rfl (by first | exact fun _ => rfl | exact fun h => h | exact fun h => bL h | exact fun h => bL (bL h) | exact fun h => bL (bL (bL h)))) rfl rfl rfl (fun _ => hbB.cells) (fun _ => rfl) rfl ⟨trivial, ?_⟩)
        refine GD.two (4) (6) (by kernel_rfl) (by kernel_rfl) rfl rfl ?_ ?_
        · refine (Step.load1 tb rfl (Op1.of rfl (by first | exact fun _ => rfl | exact fun h => h | exact fun h => bL h | exact fun h => bL (bL h) | exact fun h => bL (bL (bL h)))) rfl rfl (fun _ => hbd.c0 rfl) rfl ?_)
          refine ⟨trivial, ?_⟩
          refine GD.steps ([(6, false)]) (by kernel_rfl) (by kernel_rfl) rfl ?_
          refine GM.eff (Step.buildSlice tb ([stC k (.pointer pa)]) rfl rfl rfl rfl rfl rfl (by rfl) rfl (by rfl) (by rfl) (by rfl) (by simp [stC]) rfl ?_)
          intro u W2 ho2 hs2 hx2
          refine ⟨trivial, ?_⟩
          refine GM.nil ?_
          exact meet u _ _ _ rfl rfl (by repeat (first | exact Sub.nil _ | refine Sub.cons rfl ?_)) ⟨hx2, ho2⟩
        · refine (Step.buildSlice tb ([stC k (.pointer pa)]) rfl rfl rfl rfl rfl rfl (by rfl) rfl (by rfl) (by rfl) (by rfl) (by simp [stC]) rfl ?_)
          intro u W2 ho2 hs2 hx2
          refine ⟨trivial, ?_⟩
          refine GD.steps ([(4, false)]) (by kernel_rfl) (by kernel_rfl) rfl ?_
          refine GM.eff (Step.load1 tb rfl (Op1.of rfl (by first | exact fun _ => rfl | exact fun h => h | exact fun h => bL h | exact fun h => bL (bL h) | exact fun h => bL (bL (bL h)))) rfl rfl (fun _ => (hbd.to hx2).c0 rfl) rfl ⟨trivial, ?_⟩)
          refine GM.nil ?_
          exact meet u _ _ _ rfl rfl (by repeat (first | exact Sub.nil _ | refine Sub.cons rfl ?_)) ⟨hx2, ho2⟩
    intro u W2 ⟨hx2, hu2⟩
    have hx12 := hxd.trans hx2
    have how2 := (hst.ow.to hx1).to hx12
    have hlen2 : (List.zipWith stC m.st ps).length ≤ 1999 := by omega
    have hB2 : mb + 1 ≤ W2.heap.size := by have := (hx1.trans hx12).size; omega
    have hbx2 := hbd.to hx2
    refine GD.steps ([(7, false), (8, true), (9, true), (10, false)]) (by kernel_rfl) (by kernel_rfl) rfl ?_
    refine GM.eff (Step.append2 tb rfl (Op1.of rfl (by first | exact fun _ => rfl | exact fun h => h | exact fun h => bL h | exact fun h => bL (bL h) | exact fun h => bL (bL (bL h)))) (Op1.of rfl (by first | exact fun _ => rfl | exact fun h => h | exact fun h => bL h | exact fun h => bL (bL h) | exact fun h => bL (bL (bL h)))) rfl rfl rfl (by rfl) (how2) (hu2.sli) (by intro y hy c hc; simp only [List.mem_cons, List.not_mem_nil, or_false] at hy; subst hy; simp only [stC, List.mem_cons, List.not_mem_nil, or_false] at hc; rcases hc with rfl | rfl | rfl | rfl | rfl <;> rfl) (by simp only [List.length_map, List.length_append, List.length_cons, List.length_nil, List.length_take, List.length_drop]; omega) (by simp only [List.length_map, List.length_append, List.length_cons, List.length_nil, List.length_take, List.length_drop]; omega) (hB2) rfl ?_)
    intro v3 W3 hv3 hg3 ho3
    have hsz0 := hkq.size
    have hsz2 := (hx1.trans hx12).size
    have hnp3 := ho3.np hst.np (fun e => by have := hpl _ e; omega)
    have hne : some mb ≠ v.ownBlock := fun e => by have := (hst.ow.lt mb e.symm).1; omega
    have hbx3 := hbx2.grew hg3 hne
    refine ⟨trivial, ?_⟩
    try (refine mm tb ?_); repeat ((first | refine dFa tb ?_ | refine dLd tb ?_ | refine dLa tb ?_ | refine dLen tb ?_ | refine dFd tb ?_); try (refine mm tb ?_))
    refine GM.eff (Step.store tb (off := 0) rfl (Op1.of rfl (by first | exact fun _ => rfl | exact fun h => h | exact fun h => bL h | exact fun h => bL (bL h) | exact fun h => bL (bL (bL h)))) (Op1.of rfl (by first | exact fun _ => rfl | exact fun h => h | exact fun h => bL h | exact fun h => bL (bL h) | exact fun h => bL (bL (bL h)))) rfl hv3.cells rfl hv3.sli.one hbx3 (by exact of_decide_eq_true rfl) ?_)
    intro W4 hb4 hw4
    refine ⟨trivial, ?_⟩
    refine GM.nil ?_
    refine GD.done (by kernel_rfl) ?_
    have hb4 : Bx W4 mb [v3, .bool m.full] := hb4
    have hst4 : Sts P Q w0 W4 mb v3 (ps ++ [.pointer pa]) (m.st ++ [k]) := by
      refine ⟨?_, by simp [hst.len], ?_, hnp3⟩
      · rw [List.zipWith_append hst.len.symm]
        exact hv3.same fun q hq e => hw4.block q (by have := (hv3.lt q e).1; omega)
      · intro i k' p' h1 h2
        by_cases hi : i < m.st.length
        · rw [List.getElem?_append_left hi] at h1
          rw [List.getElem?_append_left (by rw [hst.len]; exact hi)] at h2
          exact hst.tr i k' p' h1 h2
        · rw [List.getElem?_append_right (by omega)] at h1
          rw [List.getElem?_append_right (by rw [hst.len]; omega), hst.len] at h2
          rcases hj : i - m.st.length with _ | j
          · rw [hj] at h1 h2
            simp only [List.getElem?_cons_zero, Option.some.injEq] at h1 h2
            subst h1 h2
            exact hp
          · rw [hj] at h1; simp at h1
    have hv4 := hst4.ow.sli
    have hzl4 := hst4.zl
    try (first | refine gl tb ?_ | refine gg tb ?_ | refine ll tb ?_ | refine lg tb ?_); repeat ((first | refine G.condT rfl ?_ | refine G.condF rfl ?_ | refine sFa tb ?_ | refine sLd tb ?_ | refine sLa tb ?_ | refine sLen tb ?_ | refine sFd tb ?_ | refine sBd tb ?_ | refine sBa tb ?_); try (first | refine gl tb ?_ | refine gg tb ?_ | refine ll tb ?_ | refine lg tb ?_))
    rw [hzl4]
    try (first | refine gl tb ?_ | refine gg tb ?_ | refine ll tb ?_ | refine lg tb ?_); repeat ((first | refine G.condT rfl ?_ | refine G.condF rfl ?_ | refine sFa tb ?_ | refine sLd tb ?_ | refine sLa tb ?_ | refine sLen tb ?_ | refine sFd tb ?_ | refine sBd tb ?_ | refine sBa tb ?_); try (first | refine gl tb ?_ | refine gg tb ?_ | refine ll tb ?_ | refine lg tb ?_))
    refine sAd tb (r := ((m.st.length : Nat) : Int)) ?_ (hp := by simp only [List.length_append, List.length_cons, List.length_nil]; rw [wrap_i64 (by omega) (by omega)]; omega)
    try (first | refine gl tb ?_ | refine gg tb ?_ | refine ll tb ?_ | refine lg tb ?_); repeat ((first | refine G.condT rfl ?_ | refine G.condF rfl ?_ | refine sFa tb ?_ | refine sLd tb ?_ | refine sLa tb ?_ | refine sLen tb ?_ | refine sFd tb ?_ | refine sBd tb ?_ | refine sBa tb ?_); try (first | refine gl tb ?_ | refine gg tb ?_ | refine ll tb ?_ | refine lg tb ?_))
    refine G.ret1 rfl rfl rfl rfl ?_
    have hb04 : Kq P w0 W4 := ((hkq.trans (hx1.trans hx12).kq).trans (hg3.kq hst.np)).trans (hw4.kq hnp)
    exact ⟨rfl, hb04, hpl, hsub, hnp, ⟨v3, _, hb4, hst4⟩, by simp only [List.length_append, List.length_cons, List.length_nil]; omega⟩

theorem stC_getD {st : List Rx.K} {ps : List Value} {i : Nat} {k : Rx.K} {p : Value} (hk : st[i]? = some k) (hp : ps[i]? = some p) : (List.zipWith stC st ps).getD i [] = stC k p := by
  rw [List.getD_eq_getElem?_getD, List.getElem?_zipWith, hk, hp]; rfl
theorem zip_set {st : List Rx.K} {ps : List Value} {i : Nat} {k : Rx.K} {p : Value} (hp : ps[i]? = some p) : (List.zipWith stC st ps).set i (stC k p) = List.zipWith stC (st.set i k) ps := by
  apply List.ext_getElem?
  intro j
  rw [List.getElem?_zipWith, List.getElem?_set]
  by_cases hij : i = j
  · subst hij
    simp only [if_true]
    have hl := (List.getElem?_eq_some_iff.1 hp).1
    rw [List.length_zipWith, List.getElem?_set]
    simp only [if_true]
    by_cases hs : i < st.length
    · rw [if_pos (by omega), if_pos hs, hp]
    · rw [if_neg (by omega), if_neg hs]
  · simp only [if_neg hij]
    rw [List.getElem?_zipWith, List.getElem?_set_ne hij]

set_option maxHeartbeats 2000000 in
theorem fork_okB {P Q : Nat → Prop} (w0 w : World) (mb : Nat) (m : Rx.Mk) (i a b : Nat) (turned : Bool) (h : MkS P Q w0 w mb m) (hi : m.full = false → i < m.st.length) :
    Ret Tryd.prog 57 ⟨[ptr mb, .int .i64 i, .int .i64 a, .int .i64 b, .bool turned]⟩ w fun _ w' => MkS P Q w0 w' mb (Rx.fork m i a b turned) ∧ ∀ v0, Bx w mb [v0, .bool m.full] → Bx w' mb [v0, .bool m.full] := by
  obtain ⟨hkq, hpl, hsub, hnp, ⟨v, ps, hbx, hst⟩, hle⟩ := h
  have hvs := hst.ow.sli
  have hzl := hst.zl
  refine ret_of_G Tryd.func57 rfl Tryd.ntmps57 rfl ?_
  simp only [argEnv]
  try (first | refine gl tb ?_ | refine gg tb ?_ | refine ll tb ?_ | refine lg tb ?_); repeat ((first | refine G.condT rfl ?_ | refine G.condF rfl ?_ | refine sFa tb ?_ | refine sLd tb ?_ | refine sLa tb ?_ | refine sLen tb ?_ | refine sFd tb ?_ | refine sBd tb ?_ | refine sBa tb ?_); try (first | refine gl tb ?_ | refine gg tb ?_ | refine ll tb ?_ | refine lg tb ?_))
  first | refine G.condD rfl (fun hc => ?_) (fun hc => ?_) | refine G.condN rfl (fun hc => ?_) (fun hc => ?_) | refine G.cond rfl (fun hc => ?_) (fun hc => ?_)
  · have hm : Rx.fork m i a b turned = m := by unfold Rx.fork; rw [if_pos hc]
    rw [hm]
    refine G.ret0 rfl rfl rfl ?_
    exact ⟨⟨hkq, hpl, hsub, hnp, ⟨v, ps, hbx, hst⟩, hle⟩, fun _ h => h⟩
  · have hf : m.full = false := hc
    have hi := hi hf
    obtain ⟨k, hk⟩ : ∃ k, m.st[i]? = some k := ⟨_, List.getElem?_eq_getElem hi⟩
    obtain ⟨p, hp⟩ : ∃ p, ps[i]? = some p := ⟨_, List.getElem?_eq_getElem (by rw [hst.len]; exact hi)⟩
    try (first | refine gl tb ?_ | refine gg tb ?_ | refine ll tb ?_ | refine lg tb ?_); repeat ((first | refine G.condT rfl ?_ | refine G.condF rfl ?_ | refine sFa tb ?_ | refine sLd tb ?_ | refine sLa tb ?_ | refine sLen tb ?_ | refine sFd tb ?_ | refine sBd tb ?_ | refine sBa tb ?_); try (first | refine gl tb ?_ | refine gg tb ?_ | refine ll tb ?_ | refine lg tb ?_))
    refine G.join (fun q : Nat × Nat => [(0, none, ptr mb), (1, none, .int .i64 i), (2, none, .int .i64 q.1), (3, none, .int .i64 q.2)]) (fun q w' => w = w' ∧ Rx.fork m i a b turned = ⟨Rx.setAB m.st i q.1 q.2, m.full⟩) ?_ ?_
    rotate_left
    · first | refine G.condD rfl (fun hc => ?_) (fun hc => ?_) | refine G.condN rfl (fun hc => ?_) (fun hc => ?_) | refine G.cond rfl (fun hc => ?_) (fun hc => ?_)
      · try (first | refine gl tb ?_ | refine gg tb ?_ | refine ll tb ?_ | refine lg tb ?_); repeat ((first | refine G.condT rfl ?_ | refine G.condF rfl ?_ | refine sFa tb ?_ | refine sLd tb ?_ | refine sLa tb ?_ | refine sLen tb ?_ | refine sFd tb ?_ | refine sBd tb ?_ | refine sBa tb ?_); try (first | refine gl tb ?_ | refine gg tb ?_ | refine ll tb ?_ | refine lg tb ?_))
        exact G.met (b, a) (by repeat (first | exact Sub.nil _ | refine Sub.cons rfl ?_)) ⟨rfl, by unfold Rx.fork; rw [hf, hc]; rfl⟩
      · try (first | refine gl tb ?_ | refine gg tb ?_ | refine ll tb ?_ | refine lg tb ?_); repeat ((first | refine G.condT rfl ?_ | refine G.condF rfl ?_ | refine sFa tb ?_ | refine sLd tb ?_ | refine sLa tb ?_ | refine sLen tb ?_ | refine sFd tb ?_ | refine sBd tb ?_ | refine sBa tb ?_); try (first | refine gl tb ?_ | refine gg tb ?_ | refine ll tb ?_ | refine lg tb ?_))
        exact G.met (a, b) (by repeat (first | exact Sub.nil _ | refine Sub.cons rfl ?_)) ⟨rfl, by unfold Rx.fork; rw [hf, hc]; rfl⟩
    rintro ⟨x, y⟩ _ ⟨rfl, hm⟩
    simp only at hm ⊢
    rw [hm]
    have hxd := Ext.drew w
    have hod := hst.ow.to hxd
    have hbd := hbx.to hxd
    have hne : some mb ≠ v.ownBlock := fun e => by have := (hst.ow.lt mb e.symm).1; omega
    have hget : (List.zipWith stC m.st ps)[i]? = some (stC k p) := by rw [List.getElem?_zipWith, hk, hp]
    try (first | refine gl tb ?_ | refine gg tb ?_ | refine ll tb ?_ | refine lg tb ?_); repeat ((first | refine G.condT rfl ?_ | refine G.condF rfl ?_ | refine sFa tb ?_ | refine sLd tb ?_ | refine sLa tb ?_ | refine sLen tb ?_ | refine sFd tb ?_ | refine sBd tb ?_ | refine sBa tb ?_); try (first | refine gl tb ?_ | refine gg tb ?_ | refine ll tb ?_ | refine lg tb ?_))
    refine G.regionM [(0, true), (1, true), (2, true), (3, true), (4, true), (5, true), (6, true), (7, true), (8, true), (9, true), (10, true), (11, true), (12, true), (13, true), (14, false), (15, true), (16, true), (17, false)] (fun w' => Bx w' mb [v, .bool m.full]) (by kernel_rfl) (by kernel_rfl) rfl mixed (hbd) rfl ?_
    try (refine mm tb ?_); repeat ((first | refine dFa tb ?_ | refine dLd tb ?_ | refine dLa tb ?_ | refine dLen tb ?_ | refine dFd tb ?_); try (refine mm tb ?_))
    refine dLd tb (u := v) ?_ (hc := fun w' hS _ => Bx.c0 hS (by exact rfl))
    try (refine mm tb ?_); repeat ((first | refine dFa tb ?_ | refine dLd tb ?_ | refine dLa tb ?_ | refine dLen tb ?_ | refine dFd tb ?_); try (refine mm tb ?_))
    refine dLd tb (u := v) ?_ (hc := fun w' hS _ => Bx.c0 hS (by exact rfl))
    try (refine mm tb ?_); repeat ((first | refine dFa tb ?_ | refine dLd tb ?_ | refine dLa tb ?_ | refine dLen tb ?_ | refine dFd tb ?_); try (refine mm tb ?_))
    refine dIa tb i ?_ (hj := fun _ => ⟨rfl, by rw [hzl]; exact hi⟩)
    try (refine mm tb ?_); repeat ((first | refine dFa tb ?_ | refine dLd tb ?_ | refine dLa tb ?_ | refine dLen tb ?_ | refine dFd tb ?_); try (refine mm tb ?_))
    refine GM.eff (Step.storeRowF tb (j := i) (off := 3) rfl (Op1.of rfl (by first | exact fun _ => rfl | exact fun h => h | exact fun h => bL h | exact fun h => bL (bL h) | exact fun h => bL (bL (bL h)))) (Op1.of rfl (by first | exact fun _ => rfl | exact fun h => h | exact fun h => bL h | exact fun h => bL (bL h) | exact fun h => bL (bL (bL h)))) rfl rfl rfl hod (by rw [hzl]; exact hi) (by decide) ?_)
    intro W1 ho1 hg1
    have hb1 := hbd.grew hg1 hne
    refine ⟨hb1, ?_⟩
    have e1 : ((List.zipWith stC m.st ps).getD i []).set 3 (.int .i64 x) = stC { k with a := x } p := by rw [stC_getD hk hp]; rfl
    rw [e1, zip_set hp] at ho1
    have hk1 : (m.st.set i { k with a := x })[i]? = some { k with a := x } := by rw [List.getElem?_set]; simp [hi]
    have hzl1 : (List.zipWith stC (m.st.set i { k with a := x }) ps).length = m.st.length := by rw [List.length_zipWith, List.length_set, hst.len, Nat.min_self]
    try (refine mm tb ?_); repeat ((first | refine dFa tb ?_ | refine dLd tb ?_ | refine dLa tb ?_ | refine dLen tb ?_ | refine dFd tb ?_); try (refine mm tb ?_))
    refine dIa tb i ?_ (hj := fun _ => ⟨rfl, by rw [hzl]; exact hi⟩)
    try (refine mm tb ?_); repeat ((first | refine dFa tb ?_ | refine dLd tb ?_ | refine dLa tb ?_ | refine dLen tb ?_ | refine dFd tb ?_); try (refine mm tb ?_))
    refine GM.eff (Step.storeRowF tb (j := i) (off := 4) rfl (Op1.of rfl (by first | exact fun _ => rfl | exact fun h => h | exact fun h => bL h | exact fun h => bL (bL h) | exact fun h => bL (bL (bL h)))) (Op1.of rfl (by first | exact fun _ => rfl | exact fun h => h | exact fun h => bL h | exact fun h => bL (bL h) | exact fun h => bL (bL (bL h)))) rfl rfl rfl ho1 (by rw [hzl1]; exact hi) (by decide) ?_)
    intro W2 ho2 hg2
    have hb2 := hb1.grew hg2 hne
    refine ⟨hb2, ?_⟩
    have e2 : ((List.zipWith stC (m.st.set i { k with a := x }) ps).getD i []).set 4 (.int .i64 y) = stC { k with a := x, b := y } p := by rw [stC_getD hk1 hp]; rfl
    rw [e2, zip_set hp, List.set_set] at ho2
    refine GM.nil ?_
    have hm2 : Rx.setAB m.st i x y = m.st.set i { k with a := x, b := y } := by unfold Rx.setAB; rw [hk]
    rw [hm2]
    refine G.end0 rfl rfl rfl ?_
    refine ⟨?_, fun v0 h0 => by have e := List.head_eq_of_cons_eq (Bx.uniq h0 hbx); rw [e]; exact hb2⟩
    refine ⟨?_, hpl, hsub, hnp, ⟨v, ps, hb2, ho2, by rw [List.length_set]; exact hst.len, fun j k' p' h1 h2 => ?_, hst.np⟩, by simp only [List.length_set]; exact hle⟩
    · exact ((hkq.trans hxd.kq).trans (hg1.kq hst.np)).trans (hg2.kq hst.np)
    · by_cases hj : i = j
      · subst hj
        rw [List.getElem?_set] at h1
        simp only [if_true, hi, Option.some.injEq] at h1
        subst h1
        exact hst.tr i k p' hk h2
      · rw [List.getElem?_set_ne hj] at h1
        exact hst.tr j k' p' h1 h2
theorem fork_ok {P Q : Nat → Prop} (w0 w : World) (mb : Nat) (m : Rx.Mk) (i a b : Nat) (turned : Bool) (h : MkS P Q w0 w mb m) (hi : m.full = false → i < m.st.length) :
    Ret Tryd.prog 57 ⟨[ptr mb, .int .i64 i, .int .i64 a, .int .i64 b, .bool turned]⟩ w fun _ w' => MkS P Q w0 w' mb (Rx.fork m i a b turned) := (fork_okB w0 w mb m i a b turned h hi).mono fun _ _ h => h.1
end Go.Proofs.YtbpkhgehchelhaaDoor
