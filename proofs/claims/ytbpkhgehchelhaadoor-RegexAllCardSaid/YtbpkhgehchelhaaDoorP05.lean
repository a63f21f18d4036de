/- Part of the proof of a statement about the given program. -/
import Derived.Test.YtbpkhgehchelhaaDoorP04
import Derived.Deep.OwnRows
set_option linter.unusedSimpArgs false
set_option linter.unusedVariables false
set_option linter.unusedSectionVars false
section
open Go Go.Vg Go.RowKit Go.Proofs Go.Proofs.YtbpkhgehchelhaaDoor
namespace Go.Proofs.YtbpkhgehchelhaaDoor

theorem Bx.uniq {w : World} {b : Nat} {us vs : List Value} (h : Bx w b us) (k : Bx w b vs) : us = vs := by
  obtain ⟨t, h⟩ := h
  obtain ⟨t', k⟩ := k
  rw [h] at k
  cases k
  rfl
/-- a step's cells -/
def stC (k : Rx.K) (p : Value) : List Value := [.int .i64 k.kind, p, .int .i64 k.slot, .int .i64 k.a, .int .i64 k.b]
/-- a step's set: the tree, or none -/
def Stp (Q : Nat → Prop) (w0 : World) (k : Rx.K) (p : Value) : Prop := (k.kind = 0 ∧ Tr w0 Q (.set k.l k.neg) p) ∨ (k.kind ≠ 0 ∧ p = .pointer none)
theorem Stp.isPtr {Q : Nat → Prop} {w0 : World} {k : Rx.K} {p : Value} (h : Stp Q w0 k p) : ∃ a, p = .pointer a := by
  rcases h with ⟨_, h⟩ | ⟨_, h⟩
  · obtain ⟨b, rfl⟩ := h.isPtr
    exact ⟨_, rfl⟩
  · exact ⟨_, h⟩
/-- steps in memory -/
structure Sts (P Q : Nat → Prop) (w0 w : World) (mb : Nat) (v : Value) (ps : List Value) (st : List Rx.K) : Prop where
  ow : Owns w (mb + 1) v 75 5 (List.zipWith stC st ps)
  len : ps.length = st.length
  tr : ∀ (i : Nat) (k : Rx.K) (p : Value), st[i]? = some k → ps[i]? = some p → Stp Q w0 k p
  np : ∀ g, v.ownBlock = some g → ¬ P g
/-- a maker in memory -/
structure MkS (P Q : Nat → Prop) (w0 w : World) (mb : Nat) (m : Rx.Mk) : Prop where
  kq : Kq P w0 w
  pl : ∀ g, P g → g < w0.heap.size
  sub : ∀ g, Q g → P g
  np : ¬ P mb
  ex : ∃ v ps, Bx w mb [v, .bool m.full] ∧ Sts P Q w0 w mb v ps m.st
  le : m.st.length ≤ 2000
theorem MkS.kt {P Q : Nat → Prop} {w0 w : World} {mb : Nat} {m : Rx.Mk} (h : MkS P Q w0 w mb m) : Kq Q w0 w := h.kq.mono fun g _ hq => h.sub g hq
theorem Sts.zl {P Q : Nat → Prop} {w0 w : World} {mb : Nat} {v : Value} {ps : List Value} {st : List Rx.K} (h : Sts P Q w0 w mb v ps st) : (List.zipWith stC st ps).length = st.length := by
  rw [List.length_zipWith, h.len, Nat.min_self]
theorem Sts.same {P Q : Nat → Prop} {w0 w w' : World} {mb : Nat} {v : Value} {ps : List Value} {st : List Rx.K} (h : Sts P Q w0 w mb v ps st) (hs : ∀ g, g < w.heap.size → v.ownBlock = some g → w'.heap[g]? = w.heap[g]?) : Sts P Q w0 w' mb v ps st := ⟨h.ow.same hs, h.len, h.tr, h.np⟩

set_option maxHeartbeats 2000000 in
theorem put_ok {P Q : Nat → Prop} (w0 w : World) (mb : Nat) (m : Rx.Mk) (k : Rx.K) (p : Value) (h : MkS P Q w0 w mb m) (hp : Stp Q w0 k p) :
    Ret Tryd.prog 36 ⟨[ptr mb, .agg ⟨stC k p⟩]⟩ w fun r w' => r = .int .i64 (Rx.put m k).2 ∧ MkS P Q w0 w' mb (Rx.put m k).1 := by
  obtain ⟨hkq, hpl, hsub, hnp, ⟨v, ps, hbx, hst⟩, hle⟩ := h
  obtain ⟨pa, rfl⟩ := hp.isPtr
  have hvs := hst.ow.sli
  have hzl := hst.zl
  refine ret_of_G Tryd.func36 rfl Tryd.ntmps36 rfl ?_
  simp only [argEnv]
  refine rn ?_
  refine sBox (fun W1 hb1 hs1 hx1 => ?_)
  have hbx1 := hbx.to hx1
  have hbxl := hbx.lt
  refine rn ?_
  rw [hzl]
  refine rn ?_
  first | refine G.condD rfl (fun hc => ?_) (fun hc => ?_) | refine G.condN rfl (fun hc => ?_) (fun hc => ?_) | refine G.cond rfl (fun hc => ?_) (fun hc => ?_)
  · have hc1 : 2000 ≤ m.st.length := by omega
    refine rn ?_
    refine sSf tb (fun W2 hb2 hw2 => ?_)
    refine rn ?_
    refine G.ret1 rfl rfl rfl rfl ?_
    refine ⟨?_, (hkq.trans hx1.kq).trans (hw2.kq hnp), hpl, hsub, hnp, ⟨v, ps, ?_, ?_⟩, ?_⟩
    · unfold Rx.put; rw [if_pos hc1]; rfl
    · unfold Rx.put; rw [if_pos hc1]; exact hb2
    · unfold Rx.put; rw [if_pos hc1]
      exact hst.same fun q hq e => by
        have := (hst.ow.lt q e).1
        rw [hw2.block q (by omega), hx1.block q hq]
    · unfold Rx.put; rw [if_pos hc1]; exact hle
  · have hc1 : ¬ 2000 ≤ m.st.length := by omega
    have hpe : Rx.put m k = (⟨m.st ++ [k], m.full⟩, m.st.length) := by unfold Rx.put; rw [if_neg hc1]
    rw [hpe]
    refine rn ?_
    refine G.regionG (fun _ => True) mixed trivial ?_
    refine GD.steps ([(0, true), (1, true), (2, true), (3, true)]) (by kernel_rfl) (by kernel_rfl) rfl ?_
    refine rd ?_
    refine GM.nil ?_
    have hxd := Ext.drew W1
    have hbd := hbx1.to hxd
    have hbB : Bx W1.drew w.heap.size (stC k (.pointer pa)) := hb1.to hxd
    refine GD.join [0, 1, 2, 3, 4, 5, 6] (fun u : Value => [(0, none, ptr mb), (14, none, ptr mb), (18, none, v), (20, none, u)]) (fun u w' => Ext W1.drew w' ∧ Owns w' W1.heap.size u 75 5 [stC k (.pointer pa)]) ?_ fun meet => ?_
    rotate_left
    · refine GD.two (4) (5) (by kernel_rfl) (by kernel_rfl) rfl rfl ?_ ?_
      · refine (Step.load1 tb rfl (Op1.of rfl (by first | exact fun _ => rfl | exact fun h => h | exact fun h => bL h | exact fun h => bL (bL h) | exact fun h => bL (bL (bL h)))) rfl rfl (fun _ => hbd.c0 rfl) rfl ?_)
        refine ⟨trivial, ?_⟩
        refine GD.steps ([(5, false), (6, false)]) (by kernel_rfl) (by kernel_rfl) rfl ?_
        refine GM.eff (Step.loadA tb rfl (Op1.of rfl (by first | exact fun _ => rfl | exact fun h => h | exact fun h => bL h | exact fun h => bL (bL h) | exact fun h => bL (bL (bL h)))) rfl rfl rfl (fun _ => hbB.cells) (fun _ => rfl) rfl ⟨trivial, ?_⟩)
        refine GM.eff (Step.buildSlice tb ([stC k (.pointer pa)]) rfl rfl rfl rfl rfl rfl (by rfl) rfl (by rfl) (by rfl) (by rfl) (by simp [stC]) rfl ?_)
        intro u W2 ho2 hs2 hx2
        refine ⟨trivial, ?_⟩
        refine GM.nil ?_
        exact meet u _ _ _ rfl rfl (by repeat (first | exact Sub.nil _ | refine Sub.cons rfl ?_)) ⟨hx2, ho2⟩
      · refine (Step.loadA tb rfl (Op1.of rfl (by first | exact fun _ => rfl | exact fun h => h | exact fun h => bL h | exact fun h => bL (bL h) | exact fun h => bL (bL (bL h)))) rfl rfl rfl (fun _ => hbB.cells) (fun _ => rfl) rfl ⟨trivial, ?_⟩)
        refine GD.two (4) (6) (by kernel_rfl) (by kernel_rfl) rfl rfl ?_ ?_
        · refine (Step.load1 tb rfl (Op1.of rfl (by first | exact fun _ => rfl | exact fun h => h | exact fun h => bL h | exact fun h => bL (bL h) | exact fun h => bL (bL (bL h)))) rfl rfl (fun _ => hbd.c0 rfl) rfl ?_)
          refine ⟨trivial, ?_⟩
          refine GD.steps ([(6, false)]) (by kernel_rfl) (by kernel_rfl) rfl ?_
          refine GM.eff (Step.buildSlice tb ([stC k (.pointer pa)]) rfl rfl rfl rfl rfl rfl (by rfl) rfl (by rfl) (by rfl) (by rfl) (by simp [stC]) rfl ?_)
          intro u W2 ho2 hs2 hx2
          refine ⟨trivial, ?_⟩
          refine GM.nil ?_
          exact meet u _ _ _ rfl rfl (by repeat (first | exact Sub.nil _ | refine Sub.cons rfl ?_)) ⟨hx2, ho2⟩
        · refine (Step.buildSlice tb ([stC k (.pointer pa)]) rfl rfl rfl rfl rfl rfl (by rfl) rfl (by rfl) (by rfl) (by rfl) (by simp [stC]) rfl ?_)
          intro u W2 ho2 hs2 hx2
          refine ⟨trivial, ?_⟩
          refine GD.steps ([(4, false)]) (by kernel_rfl) (by kernel_rfl) rfl ?_
          refine GM.eff (Step.load1 tb rfl (Op1.of rfl (by first | exact fun _ => rfl | exact fun h => h | exact fun h => bL h | exact fun h => bL (bL h) | exact fun h => bL (bL (bL h)))) rfl rfl (fun _ => (hbd.to hx2).c0 rfl) rfl ⟨trivial, ?_⟩)
          refine GM.nil ?_
          exact meet u _ _ _ rfl rfl (by repeat (first | exact Sub.nil _ | refine Sub.cons rfl ?_)) ⟨hx2, ho2⟩
    intro u W2 ⟨hx2, hu2⟩
    have hx12 := hxd.trans hx2
    have how2 := (hst.ow.to hx1).to hx12
    have hlen2 : (List.zipWith stC m.st ps).length ≤ 1999 := by omega
    have hB2 : mb + 1 ≤ W2.heap.size := by have := (hx1.trans hx12).size; omega
    have hbx2 := hbd.to hx2
    refine GD.steps ([(7, false), (8, true), (9, true), (10, false)]) (by kernel_rfl) (by kernel_rfl) rfl ?_
    refine GM.eff (Step.append2 tb rfl (Op1.of rfl (by first | exact fun _ => rfl | exact fun h => h | exact fun h => bL h | exact fun h => bL (bL h) | exact fun h => bL (bL (bL h)))) (Op1.of rfl (by first | exact fun _ => rfl | exact fun h => h | exact fun h => bL h | exact fun h => bL (bL h) | exact fun h => bL (bL (bL h)))) rfl rfl rfl (by rfl) (how2) (hu2.sli) (by intro y hy c hc; simp only [List.mem_cons, List.not_mem_nil, or_false] at hy; subst hy; simp only [stC, List.mem_cons, List.not_mem_nil, or_false] at hc; rcases hc with rfl | rfl | rfl | rfl | rfl <;> rfl) (by simp only [List.length_map, List.length_append, List.length_cons, List.length_nil, List.length_take, List.length_drop]; omega) (by simp only [List.length_map, List.length_append, List.length_cons, List.length_nil, List.length_take, List.length_drop]; omega) (hB2) rfl ?_)
    intro v3 W3 hv3 hg3 ho3
    have hsz0 := hkq.size
    have hsz2 := (hx1.trans hx12).size
    have hnp3 := ho3.np hst.np (fun e => by have := hpl _ e; omega)
    have hne : some mb ≠ v.ownBlock := fun e => by have := (hst.ow.lt mb e.symm).1; omega
    have hbx3 := hbx2.grew hg3 hne
    refine ⟨trivial, ?_⟩
    refine rd ?_
    refine GM.eff (Step.store tb (off := 0) rfl (Op1.of rfl (by first | exact fun _ => rfl | exact fun h => h | exact fun h => bL h | exact fun h => bL (bL h) | exact fun h => bL (bL (bL h)))) (Op1.of rfl (by first | exact fun _ => rfl | exact fun h => h | exact fun h => bL h | exact fun h => bL (bL h) | exact fun h => bL (bL (bL h)))) rfl hv3.cells rfl hv3.sli.one hbx3 (by exact of_decide_eq_true rfl) ?_)
    intro W4 hb4 hw4
    refine ⟨trivial, ?_⟩
    refine GM.nil ?_
    refine GD.done (by kernel_rfl) ?_
    have hb4 : Bx W4 mb [v3, .bool m.full] := hb4
    have hst4 : Sts P Q w0 W4 mb v3 (ps ++ [.pointer pa]) (m.st ++ [k]) := by
      refine ⟨?_, by simp [hst.len], ?_, hnp3⟩
      · rw [List.zipWith_append hst.len.symm]
        exact hv3.same fun q hq e => hw4.block q (by have := (hv3.lt q e).1; omega)
      · intro i k' p' h1 h2
        by_cases hi : i < m.st.length
        · rw [List.getElem?_append_left hi] at h1
          rw [List.getElem?_append_left (by rw [hst.len]; exact hi)] at h2
          exact hst.tr i k' p' h1 h2
        · rw [List.getElem?_append_right (by omega)] at h1
          rw [List.getElem?_append_right (by rw [hst.len]; omega), hst.len] at h2
          rcases hj : i - m.st.length with _ | j
          · rw [hj] at h1 h2
            simp only [List.getElem?_cons_zero, Option.some.injEq] at h1 h2
            subst h1 h2
            exact hp
          · rw [hj] at h1; simp at h1
    have hv4 := hst4.ow.sli
    have hzl4 := hst4.zl
    refine rn ?_
    rw [hzl4]
    refine rn ?_
    refine sAd tb (r := ((m.st.length : Nat) : Int)) ?_ (hp := by simp only [List.length_append, List.length_cons, List.length_nil]; rw [wrap_i64 (by omega) (by omega)]; omega)
    refine rn ?_
    refine G.ret1 rfl rfl rfl rfl ?_
    have hb04 : Kq P w0 W4 := ((hkq.trans (hx1.trans hx12).kq).trans (hg3.kq hst.np)).trans (hw4.kq hnp)
    exact ⟨rfl, hb04, hpl, hsub, hnp, ⟨v3, _, hb4, hst4⟩, by simp only [List.length_append, List.length_cons, List.length_nil]; omega⟩

theorem stC_getD {st : List Rx.K} {ps : List Value} {i : Nat} {k : Rx.K} {p : Value} (hk : st[i]? = some k) (hp : ps[i]? = some p) : (List.zipWith stC st ps).getD i [] = stC k p := by
  rw [List.getD_eq_getElem?_getD, List.getElem?_zipWith, hk, hp]; rfl
theorem zip_set {st : List Rx.K} {ps : List Value} {i : Nat} {k : Rx.K} {p : Value} (hp : ps[i]? = some p) : (List.zipWith stC st ps).set i (stC k p) = List.zipWith stC (st.set i k) ps := by
  apply List.ext_getElem?
  intro j
  rw [List.getElem?_zipWith, List.getElem?_set]
  by_cases hij : i = j
  · subst hij
    simp only [if_true]
    have hl := (List.getElem?_eq_some_iff.1 hp).1
    rw [List.length_zipWith, List.getElem?_set]
    simp only [if_true]
    by_cases hs : i < st.length
    · rw [if_pos (by omega), if_pos hs, hp]
    · rw [if_neg (by omega), if_neg hs]
  · simp only [if_neg hij]
    rw [List.getElem?_zipWith, List.getElem?_set_ne hij]

set_option maxHeartbeats 2000000 in
theorem fork_okB {P Q : Nat → Prop} (w0 w : World) (mb : Nat) (m : Rx.Mk) (i a b : Nat) (turned : Bool) (h : MkS P Q w0 w mb m) (hi : m.full = false → i < m.st.length) :
    Ret Tryd.prog 57 ⟨[ptr mb, .int .i64 i, .int .i64 a, .int .i64 b, .bool turned]⟩ w fun _ w' => MkS P Q w0 w' mb (Rx.fork m i a b turned) ∧ ∀ v0, Bx w mb [v0, .bool m.full] → Bx w' mb [v0, .bool m.full] := by
  obtain ⟨hkq, hpl, hsub, hnp, ⟨v, ps, hbx, hst⟩, hle⟩ := h
  have hvs := hst.ow.sli
  have hzl := hst.zl
  refine ret_of_G Tryd.func57 rfl Tryd.ntmps57 rfl ?_
  simp only [argEnv]
  refine rn ?_
  first | refine G.condD rfl (fun hc => ?_) (fun hc => ?_) | refine G.condN rfl (fun hc => ?_) (fun hc => ?_) | refine G.cond rfl (fun hc => ?_) (fun hc => ?_)
  · have hm : Rx.fork m i a b turned = m := by unfold Rx.fork; rw [if_pos hc]
    rw [hm]
    refine G.ret0 rfl rfl rfl ?_
    exact ⟨⟨hkq, hpl, hsub, hnp, ⟨v, ps, hbx, hst⟩, hle⟩, fun _ h => h⟩
  · have hf : m.full = false := hc
    have hi := hi hf
    obtain ⟨k, hk⟩ : ∃ k, m.st[i]? = some k := ⟨_, List.getElem?_eq_getElem hi⟩
    obtain ⟨p, hp⟩ : ∃ p, ps[i]? = some p := ⟨_, List.getElem?_eq_getElem (by rw [hst.len]; exact hi)⟩
    refine rn ?_
    refine G.join (fun q : Nat × Nat => [(0, none, ptr mb), (1, none, .int .i64 i), (2, none, .int .i64 q.1), (3, none, .int .i64 q.2)]) (fun q w' => w = w' ∧ Rx.fork m i a b turned = ⟨Rx.setAB m.st i q.1 q.2, m.full⟩) ?_ ?_
    rotate_left
    · first | refine G.condD rfl (fun hc => ?_) (fun hc => ?_) | refine G.condN rfl (fun hc => ?_) (fun hc => ?_) | refine G.cond rfl (fun hc => ?_) (fun hc => ?_)
      · refine rn ?_
        exact G.met (b, a) (by repeat (first | exact Sub.nil _ | refine Sub.cons rfl ?_)) ⟨rfl, by unfold Rx.fork; rw [hf, hc]; rfl⟩
      · refine rn ?_
        exact G.met (a, b) (by repeat (first | exact Sub.nil _ | refine Sub.cons rfl ?_)) ⟨rfl, by unfold Rx.fork; rw [hf, hc]; rfl⟩
    rintro ⟨x, y⟩ _ ⟨rfl, hm⟩
    simp only at hm ⊢
    rw [hm]
    have hxd := Ext.drew w
    have hod := hst.ow.to hxd
    have hbd := hbx.to hxd
    have hne : some mb ≠ v.ownBlock := fun e => by have := (hst.ow.lt mb e.symm).1; omega
    have hget : (List.zipWith stC m.st ps)[i]? = some (stC k p) := by rw [List.getElem?_zipWith, hk, hp]
    refine rn ?_
    refine G.regionM [(0, true), (1, true), (2, true), (3, true), (4, true), (5, true), (6, true), (7, true), (8, true), (9, true), (10, true), (11, true), (12, true), (13, true), (14, false), (15, true), (16, true), (17, false)] (fun w' => Bx w' mb [v, .bool m.full]) (by kernel_rfl) (by kernel_rfl) rfl mixed (hbd) rfl ?_
    refine rd ?_
    refine dLd tb (u := v) ?_ (hc := fun w' hS _ => Bx.c0 hS (by exact rfl))
    refine rd ?_
    refine dLd tb (u := v) ?_ (hc := fun w' hS _ => Bx.c0 hS (by exact rfl))
    refine rd ?_
    refine dIa tb i ?_ (hj := fun _ => ⟨rfl, by rw [hzl]; exact hi⟩)
    refine rd ?_
    refine GM.eff (Step.storeRowF tb (j := i) (off := 3) rfl (Op1.of rfl (by first | exact fun _ => rfl | exact fun h => h | exact fun h => bL h | exact fun h => bL (bL h) | exact fun h => bL (bL (bL h)))) (Op1.of rfl (by first | exact fun _ => rfl | exact fun h => h | exact fun h => bL h | exact fun h => bL (bL h) | exact fun h => bL (bL (bL h)))) rfl rfl rfl hod (by rw [hzl]; exact hi) (by decide) ?_)
    intro W1 ho1 hg1
    have hb1 := hbd.grew hg1 hne
    refine ⟨hb1, ?_⟩
    have e1 : ((List.zipWith stC m.st ps).getD i []).set 3 (.int .i64 x) = stC { k with a := x } p := by rw [stC_getD hk hp]; rfl
    rw [e1, zip_set hp] at ho1
    have hk1 : (m.st.set i { k with a := x })[i]? = some { k with a := x } := by rw [List.getElem?_set]; simp [hi]
    have hzl1 : (List.zipWith stC (m.st.set i { k with a := x }) ps).length = m.st.length := by rw [List.length_zipWith, List.length_set, hst.len, Nat.min_self]
    refine rd ?_
    refine dIa tb i ?_ (hj := fun _ => ⟨rfl, by rw [hzl]; exact hi⟩)
    refine rd ?_
    refine GM.eff (Step.storeRowF tb (j := i) (off := 4) rfl (Op1.of rfl (by first | exact fun _ => rfl | exact fun h => h | exact fun h => bL h | exact fun h => bL (bL h) | exact fun h => bL (bL (bL h)))) (Op1.of rfl (by first | exact fun _ => rfl | exact fun h => h | exact fun h => bL h | exact fun h => bL (bL h) | exact fun h => bL (bL (bL h)))) rfl rfl rfl ho1 (by rw [hzl1]; exact hi) (by decide) ?_)
    intro W2 ho2 hg2
    have hb2 := hb1.grew hg2 hne
    refine ⟨hb2, ?_⟩
    have e2 : ((List.zipWith stC (m.st.set i { k with a := x }) ps).getD i []).set 4 (.int .i64 y) = stC { k with a := x, b := y } p := by rw [stC_getD hk1 hp]; rfl
    rw [e2, zip_set hp, List.set_set] at ho2
    refine GM.nil ?_
    have hm2 : Rx.setAB m.st i x y = m.st.set i { k with a := x, b := y } := by unfold Rx.setAB; rw [hk]
    rw [hm2]
    refine G.end0 rfl rfl rfl ?_
    refine ⟨?_, fun v0 h0 => by have e := List.head_eq_of_cons_eq (Bx.uniq h0 hbx); rw [e]; exact hb2⟩
    refine ⟨?_, hpl, hsub, hnp, ⟨v, ps, hb2, ho2, by rw [List.length_set]; exact hst.len, fun j k' p' h1 h2 => ?_, hst.np⟩, by simp only [List.length_set]; exact hle⟩
    · exact ((hkq.trans hxd.kq).trans (hg1.kq hst.np)).trans (hg2.kq hst.np)
    · by_cases hj : i = j
      · subst hj
        rw [List.getElem?_set] at h1
        simp only [if_true, hi, Option.some.injEq] at h1
        subst h1
        exact hst.tr i k p' hk h2
      · rw [List.getElem?_set_ne hj] at h1
        exact hst.tr j k' p' h1 h2
theorem fork_ok {P Q : Nat → Prop} (w0 w : World) (mb : Nat) (m : Rx.Mk) (i a b : Nat) (turned : Bool) (h : MkS P Q w0 w mb m) (hi : m.full = false → i < m.st.length) :
    Ret Tryd.prog 57 ⟨[ptr mb, .int .i64 i, .int .i64 a, .int .i64 b, .bool turned]⟩ w fun _ w' => MkS P Q w0 w' mb (Rx.fork m i a b turned) := (fork_okB w0 w mb m i a b turned h hi).mono fun _ _ h => h.1
end Go.Proofs.YtbpkhgehchelhaaDoor
end
section
namespace Go.Rx

/-- m' goes on from m -/
def Gr (m m' : Mk) : Prop := m.st.length ≤ m'.st.length ∧ (m.full = true → m'.full = true)
theorem Gr.refl (m : Mk) : Gr m m := ⟨Nat.le_refl _, id⟩
theorem Gr.trans {a b c : Mk} (h : Gr a b) (k : Gr b c) : Gr a c := ⟨Nat.le_trans h.1 k.1, fun x => k.2 (h.2 x)⟩
theorem Gr.ok {a b : Mk} (h : Gr a b) (hb : b.full = false) : a.full = false := by
  cases ha : a.full with
  | false => rfl
  | true => rw [h.2 ha] at hb; cases hb
theorem put_gr (m : Mk) (k : K) : Gr m (put m k).1 := by
  unfold put; split
  · exact ⟨Nat.le_refl _, fun _ => rfl⟩
  · exact ⟨by simp, id⟩
theorem put_at {m : Mk} {k : K} (h : (put m k).1.full = false) : (put m k).2 = m.st.length ∧ (put m k).1.st.length = m.st.length + 1 := by
  unfold put at h ⊢; split
  · rename_i hc; rw [if_pos hc] at h; cases h
  · exact ⟨rfl, by simp⟩
theorem setAB_len (st : List K) (i a b : Nat) : (setAB st i a b).length = st.length := by
  unfold setAB; split
  · simp
  · rfl
theorem setA_len (st : List K) (i a : Nat) : (setA st i a).length = st.length := by
  unfold setA; split
  · simp
  · rfl
theorem fork_gr (m : Mk) (i a b : Nat) (t : Bool) : Gr m (fork m i a b t) := by
  unfold fork; split
  · exact Gr.refl m
  · exact ⟨by simp only; split <;> rw [setAB_len] <;> exact Nat.le_refl _, id⟩
theorem fork_len (m : Mk) (i a b : Nat) (t : Bool) : (fork m i a b t).st.length = m.st.length := by
  unfold fork; split
  · rfl
  · simp only; split <;> rw [setAB_len]
theorem fork_full (m : Mk) (i a b : Nat) (t : Bool) : (fork m i a b t).full = m.full := by
  unfold fork; split <;> rfl
theorem jumpTo_gr (m : Mk) (i : Nat) : Gr m (jumpTo m i) := by
  unfold jumpTo; split
  · exact Gr.refl m
  · exact ⟨by simp only; rw [setA_len]; exact Nat.le_refl _, id⟩
theorem loopN_gr {f : Mk → Mk} (hf : ∀ m, Gr m (f m)) (mn : Nat) : ∀ (n k : Nat) (was : Int) (m : Mk), Gr m (loopN f mn n k was m)
  | 0, _, _, m => Gr.refl m
  | n + 1, k, was, m => by
    rw [loopN]; split
    · exact (hf m).trans (loopN_gr hf mn n (k + 1) _ _)
    · exact Gr.refl m
theorem loopF_gr {f : Mk → Mk} (hf : ∀ m, Gr m (f m)) : ∀ (n : Nat) (l : List Nat) (m : Mk), Gr m (loopF f n l m).1
  | 0, _, m => Gr.refl m
  | n + 1, l, m => by
    rw [loopF]; split
    · exact Gr.refl m
    · exact ((put_gr m (kOf 4)).trans (hf _)).trans (loopF_gr hf n _ _)
theorem forks_gr (few : Bool) : ∀ (l : List Nat) (m : Mk), Gr m (forks few l m)
  | [], m => Gr.refl m
  | _ :: l, m => (fork_gr m _ _ _ _).trans (forks_gr few l _)
theorem repeatP_gr {f : Mk → Mk} (hf : ∀ m, Gr m (f m)) (mn : Nat) (mx : Int) (few plus : Bool) (m : Mk) : Gr m (repeatP f mn mx few plus m) := by
  unfold repeatP; split
  · exact ((hf m).trans (put_gr _ _)).trans (fork_gr _ _ _ _ _)
  · simp only
    split
    · exact ((((loopN_gr hf mn mn 0 (-1) m).trans (put_gr _ _)).trans (hf _)).trans (put_gr _ _)).trans (fork_gr _ _ _ _ _)
    · exact ((loopN_gr hf mn mn 0 (-1) m).trans (loopF_gr hf _ _ _)).trans (forks_gr _ _ _)
mutual
theorem make_gr : ∀ (t : T) (m : Mk), Gr m (make t m)
  | .emp, m => by rw [make]; exact Gr.refl m
  | .set l neg, m => by rw [make]; split <;> first | exact Gr.refl m | exact put_gr _ _
  | .bos, m => by rw [make]; split <;> first | exact Gr.refl m | exact put_gr _ _
  | .eos, m => by rw [make]; split <;> first | exact Gr.refl m | exact put_gr _ _
  | .grp n t, m => by
    rw [make]; split
    · exact Gr.refl m
    · split
      · exact make_gr t m
      · exact ((put_gr _ _).trans (make_gr t _)).trans (put_gr _ _)
  | .seq l, m => by rw [make]; split <;> first | exact Gr.refl m | exact makeL_gr l m
  | .alt a b, m => by
    rw [make]; split
    · exact Gr.refl m
    · exact (((((put_gr _ _).trans (make_gr a _)).trans (put_gr _ _)).trans (fork_gr _ _ _ _ _)).trans (make_gr b _)).trans (jumpTo_gr _ _)
  | .rep mn mx few plus t, m => by rw [make]; split <;> first | exact Gr.refl m | exact repeatP_gr (make_gr t) _ _ _ _ m
theorem makeL_gr : ∀ (l : List T) (m : Mk), Gr m (makeL l m)
  | [], m => by rw [makeL]; exact Gr.refl m
  | t :: l, m => by rw [makeL]; exact (make_gr t m).trans (makeL_gr l _)
end
end Go.Rx
end
section
open Go Go.Vg Go.RowKit Go.Proofs Go.Proofs.YtbpkhgehchelhaaDoor
namespace Go.Proofs.YtbpkhgehchelhaaDoor

def MakeC (t : Rx.T) : Prop := ∀ (P Q : Nat → Prop) (w0 w : World) (mb : Nat) (m : Rx.Mk) (v : Value), MkS P Q w0 w mb m → Tr w0 Q t v →
  Ret Tryd.prog 35 ⟨[ptr mb, v]⟩ w fun _ w' => MkS P Q w0 w' mb (Rx.make t m)
def RepeatC (t : Rx.T) (mn : Nat) (mx : Int) (few plus : Bool) : Prop := ∀ (P Q : Nat → Prop) (w0 w : World) (mb : Nat) (m : Rx.Mk) (v : Value), MkS P Q w0 w mb m → Tr w0 Q (.rep mn mx few plus t) v →
  Ret Tryd.prog 58 ⟨[ptr mb, v]⟩ w fun _ w' => MkS P Q w0 w' mb (Rx.repeatP (Rx.make t) mn mx few plus m)
/-- a tree's parts, as they stand at any time -/
theorem Tr.parts {Q : Nat → Prop} {w0 : World} {t : Rx.T} {v : Value} (h : Tr w0 Q t v) :
    ∃ (b : Nat) (sp ks : Value) (us : List Value), v = ptr b ∧ (∀ W, Kq Q w0 W → Bx W b (cellsT sp ks t)) ∧ (∀ W, Kq Q w0 W → Sli W ks 1 (us.map fun u => [u])) ∧ us.length = (kidsT t).length ∧ (∀ (i : Nat) (t' : Rx.T) (u : Value), (kidsT t)[i]? = some t' → us[i]? = some u → Tr w0 Q t' u) ∧ TrB t := by
  cases h with
  | mk b sp ks us hA hbx hs hm hk hl hkids =>
    exact ⟨b, sp, ks, us, rfl, fun W hb => hbx.same (hb.same b hbx.lt hA), fun W hb => (hk.own.same fun g hg e => hb.same g hg (hk.inn g e)).sli, hl, hkids, hm⟩
theorem put_ix (m : Rx.Mk) (k : Rx.K) : (Rx.put m k).2 ≤ m.st.length := by
  unfold Rx.put; split
  · exact Nat.zero_le _
  · exact Nat.le_refl _
theorem kof (Q : Nat → Prop) (w0 : World) (n : Nat) (h : n ≠ 0) : Stp Q w0 (Rx.kOf n) (.pointer none) := .inr ⟨h, rfl⟩

set_option maxRecDepth 100000 in
set_option maxHeartbeats 4000000 in
theorem make_ok (t : Rx.T) (ih : ∀ t' ∈ kidsT t, MakeC t') (hrep : ∀ mn mx few plus t', t = .rep mn mx few plus t' → RepeatC t' mn mx few plus) : MakeC t := by
  intro P Q w0 w mb m v h hT
  obtain ⟨b, sp, ks, us, hv, hbW, hkW, hl, hkids, hB⟩ := hT.parts
  subst hv
  obtain ⟨sv, ps, hbx, hst⟩ := h.ex
  refine ret_of_G Tryd.func35 rfl Tryd.ntmps35 rfl ?_
  simp only [argEnv]
  refine rn ?_
  first | refine G.condD rfl (fun hc => ?_) (fun hc => ?_) | refine G.condN rfl (fun hc => ?_) (fun hc => ?_) | refine G.cond rfl (fun hc => ?_) (fun hc => ?_)
  · refine G.ret0 rfl rfl rfl ?_
    have hc : m.full = true := hc
    have : Rx.make t m = m := by cases t <;> simp [Rx.make, hc]
    rw [this]
    exact h
  have hf : m.full = false := hc
  have hfn : ¬ m.full = true := by rw [hf]; simp
  cases t with
  | emp =>
    have hm : Rx.make .emp m = m := by rw [Rx.make]
    rw [hm]
    have hb : Bx w b [.int .i64 0, sp, .bool false, .int .i64 0, .int .i64 0, .int .i64 0, .bool false, .bool false, ks] := hbW w h.kt
    refine rn ?_
    refine G.end0 rfl rfl rfl ?_
    exact h
  | set l neg =>
    have hm : Rx.make (.set l neg) m = (Rx.put m { Rx.kOf 0 with l := l, neg := neg }).1 := by rw [Rx.make, if_neg hfn]
    rw [hm]
    have hb : Bx w b [.int .i64 1, sp, .bool neg, .int .i64 0, .int .i64 0, .int .i64 0, .bool false, .bool false, ks] := hbW w h.kt
    refine rn ?_
    refine sCall c36 (put_ok w0 w mb m { Rx.kOf 0 with l := l, neg := neg } (ptr b) h (.inl ⟨rfl, hT⟩)) ?_
    rintro _ W1 ⟨_, h1⟩
    refine rn ?_
    refine G.end0 rfl rfl rfl ?_
    exact h1
  | bos =>
    have hm : Rx.make .bos m = (Rx.put m (Rx.kOf 1)).1 := by rw [Rx.make, if_neg hfn]
    rw [hm]
    have hb : Bx w b [.int .i64 2, sp, .bool false, .int .i64 0, .int .i64 0, .int .i64 0, .bool false, .bool false, ks] := hbW w h.kt
    refine rn ?_
    refine sCall c36 (put_ok w0 w mb m (Rx.kOf 1) (.pointer none) h (kof _ _ _ (by decide))) ?_
    rintro _ W1 ⟨_, h1⟩
    refine rn ?_
    refine G.end0 rfl rfl rfl ?_
    exact h1
  | eos =>
    have hm : Rx.make .eos m = (Rx.put m (Rx.kOf 2)).1 := by rw [Rx.make, if_neg hfn]
    rw [hm]
    have hb : Bx w b [.int .i64 3, sp, .bool false, .int .i64 0, .int .i64 0, .int .i64 0, .bool false, .bool false, ks] := hbW w h.kt
    refine rn ?_
    refine sCall c36 (put_ok w0 w mb m (Rx.kOf 2) (.pointer none) h (kof _ _ _ (by decide))) ?_
    rintro _ W1 ⟨_, h1⟩
    refine rn ?_
    refine G.end0 rfl rfl rfl ?_
    exact h1
  | grp n t =>
    have hbW : ∀ W, Kq Q w0 W → Bx W b [.int .i64 4, sp, .bool false, .int .i64 n, .int .i64 0, .int .i64 0, .bool false, .bool false, ks] := hbW
    have hn : n ≤ 256 := hB.2.1
    have hl1 : us.length = 1 := hl
    obtain ⟨u, hu⟩ : ∃ u, us[0]? = some u := ⟨_, List.getElem?_eq_getElem (by omega)⟩
    have hTu : Tr w0 Q t u := hkids 0 t u rfl hu
    have hgetu : (us.map fun u => [u])[0]? = some [u] := by rw [List.getElem?_map, hu]; rfl
    have hm0 : Rx.make (.grp n t) m = if n = 0 then Rx.make t m else (Rx.put (Rx.make t (Rx.put m { Rx.kOf 3 with slot := 2 * n }).1) { Rx.kOf 3 with slot := 2 * n + 1 }).1 := by rw [Rx.make, if_neg hfn]
    rw [hm0]
    have hb := hbW w h.kt
    refine rn ?_
    refine G.join (fun _ : Unit => [(0, none, ptr mb), (1, none, ptr b)]) (fun _ w' => MkS P Q w0 w' mb (if n = 0 then m else (Rx.put m { Rx.kOf 3 with slot := 2 * n }).1)) ?_ ?_
    rotate_left
    · refine rn ?_
      first | refine G.condD rfl (fun hc => ?_) (fun hc => ?_) | refine G.condN rfl (fun hc => ?_) (fun hc => ?_) | refine G.cond rfl (fun hc => ?_) (fun hc => ?_)
      · refine rn ?_
        refine sAd tb (r := ((2 * n : Nat) : Int)) ?_ (hp := by show IntKind.i64.wrap _ = _; rw [wrap_i64 (by omega) (by omega)]; omega)
        refine rn ?_
        refine sCall c36 (put_ok w0 w mb m { Rx.kOf 3 with slot := 2 * n } (.pointer none) h (.inr ⟨by simp [Rx.kOf], rfl⟩)) ?_
        rintro _ W1 ⟨_, h1⟩
        refine rn ?_
        exact G.met () (by repeat (first | exact Sub.nil _ | refine Sub.cons rfl ?_)) (by rw [if_neg (by omega)]; exact h1)
      · refine rn ?_
        exact G.met () (by repeat (first | exact Sub.nil _ | refine Sub.cons rfl ?_)) (by rw [if_pos (by omega)]; exact h)
    rintro _ W1 h1
    clear hb
    have hb := hbW W1 h1.kt
    have hk := hkW W1 h1.kt
    try (first | refine gl tb ?_ | refine gg tb ?_ | refine ll tb ?_ | refine lg tb ?_); repeat ((first | refine G.condT rfl ?_ | refine G.condF rfl ?_ | refine sFa tb ?_ | refine sLd tb ?_ | refine sLa tb ?_ | refine sLen tb ?_ | refine sFd tb ?_ | refine sBd tb ?_ | refine sIa tb 0 ?_); try (first | refine gl tb ?_ | refine gg tb ?_ | refine ll tb ?_ | refine lg tb ?_))
    refine sCall c35 (ih t (by simp [kidsT]) P Q w0 W1 mb _ u h1 hTu) ?_
    rintro _ W2 h2
    clear hb hk
    have hb := hbW W2 h2.kt
    refine rn ?_
    first | refine G.condD rfl (fun hc => ?_) (fun hc => ?_) | refine G.condN rfl (fun hc => ?_) (fun hc => ?_) | refine G.cond rfl (fun hc => ?_) (fun hc => ?_)
    · have hn0 : ¬ n = 0 := by omega
      rw [if_neg hn0] at h2 ⊢
      refine rn ?_
      refine sAd tb (r := ((2 * n : Nat) : Int)) ?_ (hp := by show IntKind.i64.wrap _ = _; rw [wrap_i64 (by omega) (by omega)]; omega)
      refine rn ?_
      refine sAd tb (r := ((2 * n + 1 : Nat) : Int)) ?_ (hp := by show IntKind.i64.wrap _ = _; rw [wrap_i64 (by omega) (by omega)]; omega)
      refine rn ?_
      refine sCall c36 (put_ok w0 W2 mb _ { Rx.kOf 3 with slot := 2 * n + 1 } (.pointer none) h2 (.inr ⟨by simp [Rx.kOf], rfl⟩)) ?_
      rintro _ W3 ⟨_, h3⟩
      refine rn ?_
      refine G.end0 rfl rfl rfl ?_
      exact h3
    · have hn0 : n = 0 := by omega
      rw [if_pos hn0] at h2 ⊢
      refine rn ?_
      refine G.end0 rfl rfl rfl ?_
      exact h2
  | seq l =>
    have hbW : ∀ W, Kq Q w0 W → Bx W b [.int .i64 5, sp, .bool false, .int .i64 0, .int .i64 0, .int .i64 0, .bool false, .bool false, ks] := hbW
    have hm0 : Rx.make (.seq l) m = Rx.makeL l m := by rw [Rx.make, if_neg hfn]
    rw [hm0]
    have hb := hbW w h.kt
    have hk := hkW w h.kt
    have hlen : (us.map fun u => [u]).length = l.length := by rw [List.length_map]; exact hl
    refine rn ?_
    rw [hlen]
    refine rn ?_
    refine (G.loop (fun p : Nat × Rx.Mk => [(0, none, ptr mb), (74, none, ks), (75, none, .int .i64 l.length), (76, none, .int .i64 p.1)])
      (fun p W => MkS P Q w0 W mb p.2 ∧ p.1 ≤ l.length ∧ Rx.makeL (l.drop p.1) p.2 = Rx.makeL l m) (fun p => l.length - p.1) (0, m) (by repeat (first | exact Sub.nil _ | refine Sub.cons rfl ?_)) ⟨h, Nat.zero_le _, rfl⟩ ?_)
    clear hb hk
    rintro ⟨k, m1⟩ W1 ⟨h1, hkl, hL⟩
    simp only at h1 hkl hL ⊢
    have hk := hkW W1 h1.kt
    have hlb := hk.bound
    rw [hlen] at hlb
    refine rn ?_
    first | refine G.condD rfl (fun hc => ?_) (fun hc => ?_) | refine G.condN rfl (fun hc => ?_) (fun hc => ?_) | refine G.cond rfl (fun hc => ?_) (fun hc => ?_)
    · have hlt : k < l.length := by omega
      obtain ⟨u, hu⟩ : ∃ u, us[k]? = some u := ⟨_, List.getElem?_eq_getElem (by rw [hl]; exact hlt)⟩
      have hget : (us.map fun u => [u])[k]? = some [u] := by rw [List.getElem?_map, hu]; rfl
      have hTu := hkids k l[k] u (List.getElem?_eq_getElem hlt) hu
      rw [List.drop_eq_getElem_cons hlt, Rx.makeL] at hL
      try (first | refine gl tb ?_ | refine gg tb ?_ | refine ll tb ?_ | refine lg tb ?_); repeat ((first | refine G.condT rfl ?_ | refine G.condF rfl ?_ | refine sFa tb ?_ | refine sLd tb ?_ | refine sLa tb ?_ | refine sLen tb ?_ | refine sFd tb ?_ | refine sBd tb ?_ | refine sIa tb k ?_); try (first | refine gl tb ?_ | refine gg tb ?_ | refine ll tb ?_ | refine lg tb ?_))
      refine sCall c35 (ih l[k] (List.getElem_mem hlt) P Q w0 W1 mb m1 u h1 hTu) ?_
      rintro _ W2 h2
      refine rn ?_
      refine sAd tb (r := ((k + 1 : Nat) : Int)) ?_
      refine rn ?_
      exact G.lp (x := (k, m1)) (k + 1, Rx.make l[k] m1) (by repeat (first | exact Sub.nil _ | refine Sub.cons rfl ?_)) ⟨h2, by simp only; omega, hL⟩ (by simp only; omega)
    · have hke : k = l.length := by omega
      subst hke
      rw [List.drop_length, Rx.makeL] at hL
      rw [← hL]
      refine rn ?_
      refine G.end0 rfl rfl rfl ?_
      exact h1
  | alt ta tc =>
    have hbW : ∀ W, Kq Q w0 W → Bx W b [.int .i64 6, sp, .bool false, .int .i64 0, .int .i64 0, .int .i64 0, .bool false, .bool false, ks] := hbW
    have hl2 : us.length = 2 := hl
    obtain ⟨ua, hua⟩ : ∃ u, us[0]? = some u := ⟨_, List.getElem?_eq_getElem (by omega)⟩
    obtain ⟨uc, huc⟩ : ∃ u, us[1]? = some u := ⟨_, List.getElem?_eq_getElem (by omega)⟩
    have hTa : Tr w0 Q ta ua := hkids 0 ta ua rfl hua
    have hTc : Tr w0 Q tc uc := hkids 1 tc uc rfl huc
    have hg0 : (us.map fun u => [u])[0]? = some [ua] := by rw [List.getElem?_map, hua]; rfl
    have hg1 : (us.map fun u => [u])[1]? = some [uc] := by rw [List.getElem?_map, huc]; rfl
    rw [Rx.make, if_neg hfn]
    simp only
    have hb := hbW w h.kt
    refine rn ?_
    refine sCall c36 (put_ok w0 w mb m (Rx.kOf 4) (.pointer none) h (kof _ _ _ (by decide))) ?_
    rintro _ W1 ⟨rfl, h1⟩
    clear hb hbx
    have hb := hbW W1 h1.kt
    have hk := hkW W1 h1.kt
    have hp1 := Rx.put_gr m (Rx.kOf 4)
    have hi1u := put_ix m (Rx.kOf 4)
    have hle0 := h.le
    have ha1 := @Rx.put_at m (Rx.kOf 4)
    generalize Rx.put m (Rx.kOf 4) = r1 at h1 hp1 ha1 hi1u ⊢
    obtain ⟨m1, i1⟩ := r1
    simp only at h1 hp1 ha1 hi1u ⊢
    try (first | refine gl tb ?_ | refine gg tb ?_ | refine ll tb ?_ | refine lg tb ?_); repeat ((first | refine G.condT rfl ?_ | refine G.condF rfl ?_ | refine sFa tb ?_ | refine sLd tb ?_ | refine sLa tb ?_ | refine sLen tb ?_ | refine sFd tb ?_ | refine sBd tb ?_ | refine sIa tb 0 ?_); try (first | refine gl tb ?_ | refine gg tb ?_ | refine ll tb ?_ | refine lg tb ?_))
    refine sCall c35 (ih ta (by simp [kidsT]) P Q w0 W1 mb m1 ua h1 hTa) ?_
    rintro _ W2 h2
    clear hb hk
    have hp2 := Rx.make_gr ta m1
    generalize Rx.make ta m1 = m2 at h2 hp2 ⊢
    refine rn ?_
    refine sCall c36 (put_ok w0 W2 mb m2 (Rx.kOf 5) (.pointer none) h2 (kof _ _ _ (by decide))) ?_
    rintro _ W3 ⟨rfl, h3⟩
    have hp3 := Rx.put_gr m2 (Rx.kOf 5)
    have hi3u := put_ix m2 (Rx.kOf 5)
    have hle2 := h2.le
    have ha3 := @Rx.put_at m2 (Rx.kOf 5)
    generalize Rx.put m2 (Rx.kOf 5) = r3 at h3 hp3 ha3 hi3u ⊢
    obtain ⟨m3, i3⟩ := r3
    simp only at h3 hp3 ha3 hi3u ⊢
    have hi1 : m3.full = false → i1 < m3.st.length := fun hf3 => by
      have h2f := hp3.ok hf3
      have h1f := hp2.ok h2f
      have := ha1 h1f
      have := hp2.1
      have := hp3.1
      omega
    obtain ⟨v3, ps3, hbx3, hst3⟩ := h3.ex
    have hvs3 := hst3.ow.sli
    have hzl3 := hst3.zl
    have hle3 := h3.le
    refine rn ?_
    refine sAd tb (r := ((i1 + 1 : Nat) : Int)) ?_ (hp := by rw [wrap_i64 (by omega) (by omega)]; omega)
    refine rn ?_
    rw [hzl3]
    refine rn ?_
    refine sCall c57 (fork_ok w0 W3 mb m3 i1 (i1 + 1) m3.st.length false h3 hi1) ?_
    rintro _ W4 h4
    have hf4 := Rx.fork_full m3 i1 (i1 + 1) m3.st.length false
    have hl4 := Rx.fork_len m3 i1 (i1 + 1) m3.st.length false
    generalize Rx.fork m3 i1 (i1 + 1) m3.st.length false = m4 at h4 hf4 hl4 ⊢
    have hb := hbW W4 h4.kt
    have hk := hkW W4 h4.kt
    try (first | refine gl tb ?_ | refine gg tb ?_ | refine ll tb ?_ | refine lg tb ?_); repeat ((first | refine G.condT rfl ?_ | refine G.condF rfl ?_ | refine sFa tb ?_ | refine sLd tb ?_ | refine sLa tb ?_ | refine sLen tb ?_ | refine sFd tb ?_ | refine sBd tb ?_ | refine sIa tb 1 ?_); try (first | refine gl tb ?_ | refine gg tb ?_ | refine ll tb ?_ | refine lg tb ?_))
    refine sCall c35 (ih tc (by simp [kidsT]) P Q w0 W4 mb m4 uc h4 hTc) ?_
    rintro _ W5 h5
    have hp5 := Rx.make_gr tc m4
    generalize Rx.make tc m4 = m5 at h5 hp5 ⊢
    obtain ⟨v5, ps5, hbx5, hst5⟩ := h5.ex
    have hvs5 := hst5.ow.sli
    have hzl5 := hst5.zl
    have hle5 := h5.le
    clear hb hk hbx3
    refine rn ?_
    first | refine G.condD rfl (fun hc => ?_) (fun hc => ?_) | refine G.condN rfl (fun hc => ?_) (fun hc => ?_) | refine G.cond rfl (fun hc => ?_) (fun hc => ?_)
    · have hf5 : m5.full = false := by simpa using hc
      have hi3 : i3 < m5.st.length := by
        have h4f := hp5.ok hf5
        have := ha3 (by rw [← hf4]; exact h4f)
        have := hp5.1
        omega
      obtain ⟨kk, hkk⟩ : ∃ k, m5.st[i3]? = some k := ⟨_, List.getElem?_eq_getElem hi3⟩
      obtain ⟨p, hp⟩ : ∃ p, ps5[i3]? = some p := ⟨_, List.getElem?_eq_getElem (by rw [hst5.len]; exact hi3)⟩
      have hxd := Ext.drew W5
      have hod := hst5.ow.to hxd
      have hbd := hbx5.to hxd
      have hne : some mb ≠ v5.ownBlock := fun e => by have := (hst5.ow.lt mb e.symm).1; omega
      have hget : (List.zipWith stC m5.st ps5)[i3]? = some (stC kk p) := by rw [List.getElem?_zipWith, hkk, hp]
      refine rn ?_
      refine G.regionM [(0, true), (1, true), (2, true), (3, true), (4, true), (5, true), (6, true), (7, true), (8, true), (9, true), (10, true), (11, true), (12, false)] (fun w' => Bx w' mb [v5, .bool m5.full]) (by kernel_rfl) (by kernel_rfl) rfl mixed (hbd) rfl ?_
      refine rd ?_
      refine dLd tb (u := v5) ?_ (hc := fun w' hS _ => Bx.c0 hS (by exact rfl))
      refine rd ?_
      refine dLd tb (u := v5) ?_ (hc := fun w' hS _ => Bx.c0 hS (by exact rfl))
      refine rd ?_
      refine dIa tb i3 ?_ (hj := fun _ => ⟨rfl, by rw [hzl5]; exact hi3⟩)
      refine rd ?_
      refine GM.eff (Step.storeRowF tb (j := i3) (off := 3) rfl (Op1.of rfl (by first | exact fun _ => rfl | exact fun h => h | exact fun h => bL h | exact fun h => bL (bL h) | exact fun h => bL (bL (bL h)))) (Op1.of rfl (by first | exact fun _ => rfl | exact fun h => h | exact fun h => bL h | exact fun h => bL (bL h) | exact fun h => bL (bL (bL h)))) rfl rfl rfl hod (by rw [hzl5]; exact hi3) (by decide) ?_)
      intro W6 ho6 hg6
      have hb6 := hbd.grew hg6 hne
      refine ⟨hb6, ?_⟩
      have e1 : ((List.zipWith stC m5.st ps5).getD i3 []).set 3 (.int .i64 (List.zipWith stC m5.st ps5).length) = stC { kk with a := m5.st.length } p := by rw [stC_getD hkk hp, hzl5]; rfl
      rw [e1, zip_set hp] at ho6
      refine GM.nil ?_
      have hm6 : Rx.jumpTo m5 i3 = ⟨m5.st.set i3 { kk with a := m5.st.length }, m5.full⟩ := by
        unfold Rx.jumpTo Rx.setA
        rw [hf5, hkk]; rfl
      rw [hm6]
      refine G.end0 rfl rfl rfl ?_
      refine ⟨?_, h5.pl, h5.sub, h5.np, ⟨v5, ps5, hb6, ho6, by rw [List.length_set]; exact hst5.len, fun j k' p' g1 g2 => ?_, hst5.np⟩, by simp only [List.length_set]; exact hle5⟩
      · exact (h5.kq.trans hxd.kq).trans (hg6.kq hst5.np)
      · by_cases hj : i3 = j
        · subst hj
          rw [List.getElem?_set] at g1
          simp only [if_true, hi3, Option.some.injEq] at g1
          subst g1
          exact hst5.tr i3 kk p' hkk g2
        · rw [List.getElem?_set_ne hj] at g1
          exact hst5.tr j k' p' g1 g2
    · have hf5 : m5.full = true := by simpa using hc
      have hm6 : Rx.jumpTo m5 i3 = m5 := by unfold Rx.jumpTo; rw [if_pos hf5]
      rw [hm6]
      refine rn ?_
      refine G.end0 rfl rfl rfl ?_
      exact h5
  | rep mn mx few plus t' =>
    have hbW : ∀ W, Kq Q w0 W → Bx W b [.int .i64 7, sp, .bool false, .int .i64 0, .int .i64 mn, .int .i64 mx, .bool few, .bool plus, ks] := hbW
    rw [Rx.make, if_neg hfn]
    have hb := hbW w h.kt
    refine rn ?_
    refine sCall c58 (hrep mn mx few plus t' rfl P Q w0 w mb m (ptr b) h hT) ?_
    rintro _ W1 h1
    refine rn ?_
    refine G.end0 rfl rfl rfl ?_
    exact h1
end Go.Proofs.YtbpkhgehchelhaaDoor
end
section
open Go Go.Vg Go.RowKit Go.Proofs Go.Proofs.YtbpkhgehchelhaaDoor
namespace Go.Proofs.YtbpkhgehchelhaaDoor

theorem loopN_end {f : Rx.Mk → Rx.Mk} {mn n k : Nat} {was : Int} {m : Rx.Mk} (h : ¬ (k < mn ∧ ¬ m.full = true ∧ was < (m.st.length : Int))) : Rx.loopN f mn n k was m = m := by
  cases n with
  | zero => rfl
  | succ n => rw [Rx.loopN, if_neg h]

/-- a maker in memory beside a row of places that are no more than its steps -/
structure MkF (P Q : Nat → Prop) (w0 w : World) (mb : Nat) (m : Rx.Mk) (fv : Value) (fl : List Nat) : Prop where
  ms : MkS P Q w0 w mb m
  row : Owns w (mb + 1) fv 3 1 (fl.map fun (i : Nat) => [Value.int .i64 i])
  np : ∀ g, fv.ownBlock = some g → ¬ P g
  ne : ∀ v fu, Bx w mb [v, fu] → ∀ g, fv.ownBlock = some g → v.ownBlock ≠ some g
theorem MkF.nil {P Q : Nat → Prop} {w0 w : World} {mb : Nat} {m : Rx.Mk} (h : MkS P Q w0 w mb m) : MkF P Q w0 w mb m nilV [] :=
  ⟨h, Owns.nil _ _ _ _, fun g hg => by simp [Value.ownBlock] at hg, fun _ _ _ g hg => by simp [Value.ownBlock] at hg⟩
/-- what is kept beside the row -/
def PF (P : Nat → Prop) (fv : Value) (g : Nat) : Prop := P g ∨ fv.ownBlock = some g
theorem MkF.lift {P Q : Nat → Prop} {w0 w : World} {mb : Nat} {m : Rx.Mk} {fv : Value} {fl : List Nat} (h : MkF P Q w0 w mb m fv fl) : MkS (PF P fv) Q w w mb m := by
  obtain ⟨v, ps, hbx, hst⟩ := h.ms.ex
  refine ⟨Kq.refl _ _, ?_, fun g hq => .inl (h.ms.sub g hq), ?_, ⟨v, ps, hbx, hst.ow, hst.len, ?_, ?_⟩, h.ms.le⟩
  · rintro g (hp | hp)
    · exact Nat.lt_of_lt_of_le (h.ms.pl g hp) h.ms.kq.size
    · exact (h.row.lt g hp).2
  · rintro (hp | hp)
    · exact h.ms.np hp
    · have := (h.row.lt mb hp).1; omega
  · intro i k p hk hp
    rcases hst.tr i k p hk hp with ⟨e, ht⟩ | e
    · exact .inl ⟨e, ht.same fun g hg hpg => ⟨h.ms.kt.same g hg hpg, hpg⟩⟩
    · exact .inr e
  · intro g hg
    rintro (hp | hp)
    · exact hst.np g hg hp
    · exact h.ne v _ hbx g hp hg
theorem MkF.tr {P Q : Nat → Prop} {w0 w : World} {mb : Nat} {m : Rx.Mk} {fv : Value} {fl : List Nat} (h : MkF P Q w0 w mb m fv fl) {t : Rx.T} {u : Value} (ht : Tr w0 Q t u) : Tr w Q t u :=
  ht.same fun g hg hpg => ⟨h.ms.kt.same g hg hpg, hpg⟩
theorem MkF.back {P Q : Nat → Prop} {w0 w w' : World} {mb : Nat} {m m' : Rx.Mk} {fv : Value} {fl : List Nat} (h : MkF P Q w0 w mb m fv fl) (k : MkS (PF P fv) Q w w' mb m') : MkF P Q w0 w' mb m' fv fl := by
  have hq : Kq P w0 w' := h.ms.kq.trans (k.kq.mono fun g _ hp => .inl hp)
  obtain ⟨v, ps, hbx, hst⟩ := k.ex
  refine ⟨⟨hq, h.ms.pl, h.ms.sub, h.ms.np, ⟨v, ps, hbx, hst.ow, hst.len, ?_, fun g hg hp => hst.np g hg (.inl hp)⟩, k.le⟩, h.row.same fun g hg e => k.kq.same g hg (.inr e), h.np, fun v' fu hb g hg hv => ?_⟩
  · intro i kk p hk hp
    rcases hst.tr i kk p hk hp with ⟨e, ht⟩ | e
    · exact .inl ⟨e, ht.same fun g _ hpg => ⟨(h.ms.kt.same g (h.ms.pl g (h.ms.sub g hpg)) hpg).symm, hpg⟩⟩
    · exact .inr e
  · have e := List.head_eq_of_cons_eq (Bx.uniq hb hbx)
    rw [e] at hv
    exact hst.np g hv (.inr hg)

theorem MkS.to {P Q : Nat → Prop} {w0 w w' : World} {mb : Nat} {m : Rx.Mk} (h : MkS P Q w0 w mb m) (hx : Ext w w') : MkS P Q w0 w' mb m := by
  obtain ⟨v, ps, hbx, hst⟩ := h.ex
  exact ⟨h.kq.trans hx.kq, h.pl, h.sub, h.np, ⟨v, ps, hbx.to hx, hst.same fun g hg _ => hx.block g hg⟩, h.le⟩
theorem MkF.to {P Q : Nat → Prop} {w0 w w' : World} {mb : Nat} {m : Rx.Mk} {fv : Value} {fl : List Nat} (h : MkF P Q w0 w mb m fv fl) (hx : Ext w w') : MkF P Q w0 w' mb m fv fl :=
  h.back (h.lift.to hx)
theorem MkF.app {P Q : Nat → Prop} {w0 w w' : World} {mb : Nat} {m : Rx.Mk} {fv fv' : Value} {fl : List Nat} {i : Nat} (h : MkF P Q w0 w mb m fv fl) (hr : Owns w' (mb + 1) fv' 3 1 ((fl.map fun (i : Nat) => [Value.int .i64 i]) ++ [[.int .i64 i]]))
    (hg : Grew (mb + 1) fv w w') (ho : Own2 w fv fv') : MkF P Q w0 w' mb m fv' (fl ++ [i]) := by
  obtain ⟨v, ps, hbx, hst⟩ := h.ms.ex
  have hsz := h.ms.kq.size
  have hb' := hbx.grew hg (fun e => by have := (h.row.lt mb e.symm).1; omega)
  refine ⟨⟨h.ms.kq.trans (hg.kq h.np), h.ms.pl, h.ms.sub, h.ms.np, ⟨v, ps, hb', hst.same fun g hgl e => hg.block g hgl fun e' => h.ne v _ hbx g e'.symm e⟩, h.ms.le⟩, by rw [List.map_append]; exact hr, ho.np h.np (fun e => by have := h.ms.pl _ e; omega), fun v' fu hb g hg' hv => ?_⟩
  have e := List.head_eq_of_cons_eq (Bx.uniq hb hb')
  rw [e] at hv
  rcases ho with ho | ho
  · exact h.ne v _ hbx g (ho ▸ hg') hv
  · rw [ho] at hg'
    cases hg'
    have := (hst.ow.lt _ hv).2
    omega

set_option maxRecDepth 100000 in
set_option maxHeartbeats 4000000 in
theorem repeat_ok (t : Rx.T) (hmk : MakeC t) (mn : Nat) (mx : Int) (few plus : Bool) : RepeatC t mn mx few plus := by
  intro P Q w0 w mb m v h hT
  obtain ⟨b, sp, ks, us, hv, hbW, hkW, hl, hkids, hB⟩ := hT.parts
  subst hv
  have hbW : ∀ W, Kq Q w0 W → Bx W b [.int .i64 7, sp, .bool false, .int .i64 0, .int .i64 mn, .int .i64 mx, .bool few, .bool plus, ks] := hbW
  have hmn : mn ≤ 100 := by have := hB.2.2.1; exact Int.ofNat_le.1 this
  have hmx : mx ≤ 100 := hB.2.2.2
  have hl1 : us.length = 1 := hl
  obtain ⟨u, hu⟩ : ∃ u, us[0]? = some u := ⟨_, List.getElem?_eq_getElem (by omega)⟩
  have hTu : Tr w0 Q t u := hkids 0 t u rfl hu
  have hgetu : (us.map fun u => [u])[0]? = some [u] := by rw [List.getElem?_map, hu]; rfl
  have hb := hbW w h.kt
  have hk := hkW w h.kt
  obtain ⟨v0, ps0, hbx0, hst0⟩ := h.ex
  have hvs0 := hst0.ow.sli
  have hzl0 := hst0.zl
  have hle0 := h.le
  refine ret_of_G Tryd.func58 rfl Tryd.ntmps58 rfl ?_
  simp only [argEnv]
  try (first | refine gl tb ?_ | refine gg tb ?_ | refine ll tb ?_ | refine lg tb ?_); repeat ((first | refine G.condT rfl ?_ | refine G.condF rfl ?_ | refine sFa tb ?_ | refine sLd tb ?_ | refine sLa tb ?_ | refine sLen tb ?_ | refine sFd tb ?_ | refine sBd tb ?_ | refine sIa tb 0 ?_); try (first | refine gl tb ?_ | refine gg tb ?_ | refine ll tb ?_ | refine lg tb ?_))
  first | refine G.condD rfl (fun hc => ?_) (fun hc => ?_) | refine G.condN rfl (fun hc => ?_) (fun hc => ?_) | refine G.cond rfl (fun hc => ?_) (fun hc => ?_)
  · have hpl : plus = true := hc
    subst hpl
    unfold Rx.repeatP
    rw [if_pos rfl]
    refine rn ?_
    rw [hzl0]
    refine rn ?_
    refine sCall c35 (hmk P Q w0 w mb m u h hTu) ?_
    rintro _ W1 h1
    have hp1 := Rx.make_gr t m
    generalize Rx.make t m = m1 at h1 hp1 ⊢
    refine rn ?_
    refine sCall c36 (put_ok w0 W1 mb m1 (Rx.kOf 4) (.pointer none) h1 (kof _ _ _ (by decide))) ?_
    rintro _ W2 ⟨rfl, h2⟩
    have ha2 := @Rx.put_at m1 (Rx.kOf 4)
    have hi2u := put_ix m1 (Rx.kOf 4)
    have hle1 := h1.le
    simp only
    generalize Rx.put m1 (Rx.kOf 4) = r2 at h2 ha2 hi2u ⊢
    obtain ⟨m2, i2⟩ := r2
    simp only at h2 ha2 hi2u ⊢
    clear hb
    have hb := hbW W2 h2.kt
    refine rn ?_
    refine sAd tb (r := ((i2 + 1 : Nat) : Int)) ?_ (hp := by rw [wrap_i64 (by omega) (by omega)]; omega)
    refine rn ?_
    refine sCall c57 (fork_ok w0 W2 mb m2 i2 m.st.length (i2 + 1) few h2 (fun hf => by have := ha2 hf; omega)) ?_
    rintro _ W3 h3
    refine G.ret0 rfl rfl rfl ?_
    exact h3
  · have hpl : plus = false := hc
    subst hpl
    unfold Rx.repeatP
    rw [if_neg (by decide)]
    simp only
    refine rn ?_
    refine (G.loop (fun p : Nat × Int × Rx.Mk => [(0, none, ptr mb), (1, none, ptr b), (4, none, u), (7, none, .int .i64 p.1), (8, none, .int .i64 p.2.1)])
      (fun p W => MkS P Q w0 W mb p.2.2 ∧ p.1 ≤ mn ∧ -1 ≤ p.2.1 ∧ p.2.1 ≤ 2000 ∧ Rx.loopN (Rx.make t) mn (mn - p.1) p.1 p.2.1 p.2.2 = Rx.loopN (Rx.make t) mn mn 0 (-1) m) (fun p => mn - p.1) (0, -1, m) (by repeat (first | exact Sub.nil _ | refine Sub.cons rfl ?_)) ⟨h, Nat.zero_le _, by simp only; omega, by simp only; omega, rfl⟩ ?_)
    clear hb hk hbx0 hvs0
    rintro ⟨k, was, m1⟩ W1 ⟨h1, hkl, hw1, hw2, hL⟩
    simp only at h1 hkl hw1 hw2 hL ⊢
    have hb := hbW W1 h1.kt
    obtain ⟨v1, ps1, hbx1, hst1⟩ := h1.ex
    have hvs1 := hst1.ow.sli
    have hzl1 := hst1.zl
    have hle1 := h1.le
    refine rn ?_
    first | refine G.condD rfl (fun hc => ?_) (fun hc => ?_) | refine G.condN rfl (fun hc => ?_) (fun hc => ?_) | refine G.cond rfl (fun hc => ?_) (fun hc => ?_)
    · have hc1 : (k < mn ∧ ¬ m1.full = true ∧ was < (m1.st.length : Int)) := by
        rw [hzl1] at hc
        simpa [and_assoc] using hc
      have hlp : mn - k = (mn - (k + 1)) + 1 := by omega
      rw [hlp, Rx.loopN, if_pos hc1] at hL
      refine rn ?_
      rw [hzl1]
      refine rn ?_
      refine sCall c35 (hmk P Q w0 W1 mb m1 u h1 hTu) ?_
      rintro _ W2 h2
      refine rn ?_
      refine sAd tb (r := ((k + 1 : Nat) : Int)) ?_
      refine rn ?_
      exact G.lp (x := (k, was, m1)) (k + 1, (m1.st.length : Int), Rx.make t m1) (by repeat (first | exact Sub.nil _ | refine Sub.cons rfl ?_)) ⟨h2, by simp only; omega, by simp only; omega, by simp only; omega, hL⟩ (by simp only; omega)
    · have hc1 : ¬ (k < mn ∧ ¬ m1.full = true ∧ was < (m1.st.length : Int)) := by
        rw [hzl1] at hc
        simpa [and_assoc] using hc
      rw [loopN_end hc1] at hL
      rw [← hL]
      clear hL hc hc1 hw1 hw2
      refine rn ?_
      first | refine G.condD rfl (fun hc => ?_) (fun hc => ?_) | refine G.condN rfl (fun hc => ?_) (fun hc => ?_) | refine G.cond rfl (fun hc => ?_) (fun hc => ?_)
      · have hx : mx < 0 := hc
        rw [if_pos hx]
        refine rn ?_
        refine sCall c36 (put_ok w0 W1 mb m1 (Rx.kOf 4) (.pointer none) h1 (kof _ _ _ (by decide))) ?_
        rintro _ W2 ⟨rfl, h2⟩
        have hp2 := Rx.put_gr m1 (Rx.kOf 4)
        have ha2 := @Rx.put_at m1 (Rx.kOf 4)
        have hi2u := put_ix m1 (Rx.kOf 4)
        generalize Rx.put m1 (Rx.kOf 4) = r2 at h2 hp2 ha2 hi2u ⊢
        obtain ⟨m2, i2⟩ := r2
        simp only at h2 hp2 ha2 hi2u ⊢
        refine rn ?_
        refine sCall c35 (hmk P Q w0 W2 mb m2 u h2 hTu) ?_
        rintro _ W3 h3
        have hp3 := Rx.make_gr t m2
        generalize Rx.make t m2 = m3 at h3 hp3 ⊢
        refine rn ?_
        refine sCall c36 (put_ok w0 W3 mb m3 { Rx.kOf 5 with a := i2 } (.pointer none) h3 (.inr ⟨by simp [Rx.kOf], rfl⟩)) ?_
        rintro _ W4 ⟨_, h4⟩
        have hp4 := Rx.put_gr m3 { Rx.kOf 5 with a := i2 }
        generalize (Rx.put m3 { Rx.kOf 5 with a := i2 }).1 = m4 at h4 hp4 ⊢
        have hi4 : m4.full = false → i2 < m4.st.length := fun hf => by
          have h3f := hp4.ok hf
          have h2f := hp3.ok h3f
          have := ha2 h2f
          have := hp4.1
          have := hp3.1
          omega
        clear hb hbx1
        obtain ⟨v4, ps4, hbx4, hst4⟩ := h4.ex
        have hvs4 := hst4.ow.sli
        have hzl4 := hst4.zl
        have hle4 := h4.le
        have hkd := (Ext.drew W4).kq (P := P)
        have h4d : MkS P Q w0 W4.drew mb m4 := ⟨h4.kq.trans hkd, h4.pl, h4.sub, h4.np, ⟨v4, ps4, hbx4.to (Ext.drew W4), hst4.same fun g hg _ => (Ext.drew W4).block g hg⟩, h4.le⟩
        refine rn ?_
        refine G.regionM [(0, true), (1, true), (2, true), (3, true), (4, true), (5, true), (6, true), (7, true), (8, true), (9, true), (10, true), (11, true), (12, true), (13, false)] (fun w' => Bx w' mb [v4, .bool m4.full] ∧ Kq Q w0 w') (by kernel_rfl) (by kernel_rfl) rfl mixed (⟨hbx4.to (Ext.drew W4), h4d.kt⟩) rfl ?_
        refine rd ?_
        refine dAd tb (r := ((i2 + 1 : Nat) : Int)) ?_ (hp := by rw [wrap_i64 (by omega) (by omega)]; omega)
        refine rd ?_
        refine dLd tb (u := v4) ?_ (hc := fun w' hS _ => Bx.c0 hS.1 (by exact rfl))
        refine rd ?_
        refine dLd tb (u := .bool few) ?_ (hc := fun w' hS _ => Bx.ci (hbW w' hS.2) (i := 6) (by exact rfl))
        refine rd ?_
        rw [hzl4]
        refine GM.eff (Step.callF rfl rfl rfl c57 rfl (fork_okB w0 W4.drew mb m4 i2 (i2 + 1) m4.st.length few h4d hi4) ?_)
        intro _ W5 ⟨h5, hB5⟩
        refine ⟨⟨hB5 v4 (hbx4.to (Ext.drew W4)), h5.kt⟩, ?_⟩
        refine GM.nil ?_
        refine G.ret0 rfl rfl rfl ?_
        exact h5
      · have hx : ¬ mx < 0 := hc
        rw [if_neg hx]
        refine rn ?_
        refine (G.loop (fun p : Nat × Value × List Nat × Rx.Mk => [(0, none, ptr mb), (1, none, ptr b), (4, none, u), (10, none, p.2.1), (11, none, .int .i64 (p.1 : Nat))])
          (fun p W => MkF P Q w0 W mb p.2.2.2 p.2.1 p.2.2.1 ∧ mn ≤ p.1 ∧ p.1 ≤ 100 ∧ (∀ i ∈ p.2.2.1, i ≤ 2000 ∧ (p.2.2.2.full = false → i < p.2.2.2.st.length)) ∧ p.2.2.1.length = p.1 - mn ∧ Rx.loopF (Rx.make t) (mx.toNat - p.1) p.2.2.1 p.2.2.2 = Rx.loopF (Rx.make t) (mx.toNat - mn) [] m1) (fun p => mx.toNat - p.1) (mn, nilV, [], m1) (by repeat (first | exact Sub.nil _ | refine Sub.cons rfl ?_)) ⟨.nil h1, Nat.le_refl _, hmn, by simp, by simp, rfl⟩ ?_)
        clear hb hbx1 hvs1 hzl1 hst1
        rintro ⟨k2, fv, fl, m2⟩ W2 ⟨h2, hk1, hk2, hfi, hfl, hF⟩
        simp only at h2 hk1 hk2 hfi hfl hF ⊢
        have hb := hbW W2 h2.ms.kt
        obtain ⟨v2, ps2, hbx2, hst2⟩ := h2.ms.ex
        have hle2 := h2.ms.le
        refine rn ?_
        first | refine G.condD rfl (fun hc => ?_) (fun hc => ?_) | refine G.condN rfl (fun hc => ?_) (fun hc => ?_) | refine G.cond rfl (fun hc => ?_) (fun hc => ?_)
        · have hc1 : (k2 : Int) < mx ∧ m2.full = false := by simpa using hc
          have hlp : mx.toNat - k2 = (mx.toNat - (k2 + 1)) + 1 := by omega
          rw [hlp, Rx.loopF, if_neg (by rw [hc1.2]; decide)] at hF
          refine rn ?_
          refine sCall c36 (put_ok W2 W2 mb m2 (Rx.kOf 4) (.pointer none) h2.lift (kof _ _ _ (by decide))) ?_
          rintro _ W3 ⟨rfl, h3⟩
          have h3b := h2.back h3
          have hp3 := Rx.put_gr m2 (Rx.kOf 4)
          have ha3 := @Rx.put_at m2 (Rx.kOf 4)
          have hi3u := put_ix m2 (Rx.kOf 4)
          generalize Rx.put m2 (Rx.kOf 4) = r3 at h3b hp3 ha3 hi3u hF ⊢
          clear h3
          obtain ⟨m3, i3⟩ := r3
          simp only at h3b hp3 ha3 hi3u hF ⊢
          clear hb hbx2 hst2
          refine GL.cons (Step.buildSlice tb ([[Value.int .i64 i3]]) rfl rfl rfl rfl rfl rfl (by rfl) rfl (by rfl) (by rfl) (by rfl) (by simp) rfl ?_)
          intro u4 W4 ho4 hs4 hx4
          have h4b := h3b.to hx4
          have hB4 : mb + 1 ≤ W4.heap.size := by obtain ⟨_, _, hbx4, _⟩ := h4b.ms.ex; exact hbx4.lt
          have hlf : (fl.map fun (i : Nat) => [Value.int .i64 i]).length ≤ 100 := by rw [List.length_map]; omega
          refine GL.cons (Step.append2 tb rfl (Op1.of rfl (by first | exact fun _ => rfl | exact fun h => h | exact fun h => bL h | exact fun h => bL (bL h) | exact fun h => bL (bL (bL h)))) (Op1.of rfl (by first | exact fun _ => rfl | exact fun h => h | exact fun h => bL h | exact fun h => bL (bL h) | exact fun h => bL (bL (bL h)))) rfl rfl rfl (by rfl) (h4b.row) (ho4.sli) (by intro y hy c hc; simp only [List.mem_cons, List.not_mem_nil, or_false] at hy; subst hy; simp only [List.mem_cons, List.not_mem_nil, or_false] at hc; subst hc; rfl) (by simp only [List.length_map, List.length_append, List.length_cons, List.length_nil, List.length_take, List.length_drop]; omega) (by simp only [List.length_map, List.length_append, List.length_cons, List.length_nil, List.length_take, List.length_drop]; omega) (hB4) rfl ?_)
          intro fv5 W5 ho5 hg5 hw5
          have h5b := h4b.app ho5 hg5 hw5
          refine rn ?_
          refine sCall c35 (hmk _ Q W5 W5 mb m3 u h5b.lift (h5b.tr hTu)) ?_
          rintro _ W6 h6
          have h6b := h5b.back h6
          have hp6 := Rx.make_gr t m3
          generalize Rx.make t m3 = m6 at h6b hp6 hF ⊢
          clear h6
          refine rn ?_
          refine sAd tb (r := ((k2 + 1 : Nat) : Int)) ?_
          refine rn ?_
          refine G.lp (x := (k2, fv, fl, m2)) (k2 + 1, fv5, fl ++ [i3], m6) (by repeat (first | exact Sub.nil _ | refine Sub.cons rfl ?_)) ⟨h6b, by simp only; omega, by simp only; omega, fun i hi => ?_, by simp only [List.length_append, List.length_cons, List.length_nil]; omega, hF⟩ (by simp only; omega)
          simp only [List.mem_append, List.mem_cons, List.not_mem_nil, or_false] at hi
          have hp36 := hp3.1
          have hp61 := hp6.1
          rcases hi with hi | rfl
          · refine ⟨(hfi i hi).1, fun hf => ?_⟩
            have := (hfi i hi).2 hc1.2
            show i < m6.st.length
            omega
          · refine ⟨by omega, fun hf => ?_⟩
            have := ha3 (hp6.ok hf)
            show i < m6.st.length
            omega
        · have hc1 : ¬ ((k2 : Int) < mx ∧ m2.full = false) := by simpa using hc
          have hF2 : Rx.loopF (Rx.make t) (mx.toNat - k2) fl m2 = (m2, fl) := by
            rcases hn : mx.toNat - k2 with _ | n
            · rfl
            · rw [Rx.loopF, if_pos]
              rcases hf : m2.full with _ | _
              · exact absurd ⟨by omega, hf⟩ hc1
              · rfl
          rw [hF2] at hF
          rw [← hF]
          simp only
          clear hF hF2 hc1 hc hb
          have hvf := h2.row.sli
          have hlf : (fl.map fun (i : Nat) => [Value.int .i64 i]).length = fl.length := List.length_map _
          refine rn ?_
          rw [hlf]
          refine rn ?_
          refine (G.loop (fun p : Nat × Rx.Mk => [(0, none, ptr mb), (1, none, ptr b), (134, none, fv), (135, none, .int .i64 fl.length), (136, none, .int .i64 p.1)])
            (fun p W => MkF P Q w0 W mb p.2 fv fl ∧ p.1 ≤ fl.length ∧ p.2.full = m2.full ∧ p.2.st.length = m2.st.length ∧ Rx.forks few (fl.drop p.1) p.2 = Rx.forks few fl m2) (fun p => fl.length - p.1) (0, m2) (by repeat (first | exact Sub.nil _ | refine Sub.cons rfl ?_)) ⟨h2, Nat.zero_le _, rfl, rfl, rfl⟩ ?_)
          clear hvf hbx2 hst2 h2 
          rintro ⟨j, m3⟩ W3 ⟨h3, hj, hfu, hln, hF⟩
          simp only at h3 hj hfu hln hF ⊢
          refine rn ?_
          first | refine G.condD rfl (fun hc => ?_) (fun hc => ?_) | refine G.condN rfl (fun hc => ?_) (fun hc => ?_) | refine G.cond rfl (fun hc => ?_) (fun hc => ?_)
          · have hlt : j < fl.length := by omega
            have hget : (fl.map fun (i : Nat) => [Value.int .i64 i])[j]? = some [.int .i64 (fl[j] : Nat)] := by rw [List.getElem?_map, List.getElem?_eq_getElem hlt]; rfl
            have hvf := h3.row.sli
            have hij := hfi fl[j] (List.getElem_mem hlt)
            rw [List.drop_eq_getElem_cons hlt, Rx.forks] at hF
            generalize fl[j] = i at hget hij hF
            try (first | refine gl tb ?_ | refine gg tb ?_ | refine ll tb ?_ | refine lg tb ?_); repeat ((first | refine G.condT rfl ?_ | refine G.condF rfl ?_ | refine sFa tb ?_ | refine sLd tb ?_ | refine sLa tb ?_ | refine sLen tb ?_ | refine sFd tb ?_ | refine sBd tb ?_ | refine sIa tb j ?_); try (first | refine gl tb ?_ | refine gg tb ?_ | refine ll tb ?_ | refine lg tb ?_))
            have h4 := h3.to (Ext.drew W3)
            generalize hW4 : W3.drew = W4 at h4
            obtain ⟨v4, ps4, hbx4, hst4⟩ := h4.ms.ex
            have hvs4 := hst4.ow.sli
            have hzl4 := hst4.zl
            have hle4 := h4.ms.le
            refine G.regionM [(0, true), (1, true), (2, true), (3, true), (4, true), (5, true), (6, true), (7, true), (8, true), (9, true), (10, true), (11, true), (12, true), (13, false)] (fun w' => Bx w' mb [v4, .bool m3.full] ∧ Kq Q w0 w') (by kernel_rfl) (by kernel_rfl) rfl mixed (by rw [hW4]; exact ⟨hbx4, h4.ms.kt⟩) rfl ?_
            rw [hW4]
            refine rd ?_
            refine dAd tb (r := ((i + 1 : Nat) : Int)) ?_ (hp := by rw [wrap_i64 (by omega) (by omega)]; omega)
            refine rd ?_
            refine dLd tb (u := v4) ?_ (hc := fun w' hS _ => Bx.c0 hS.1 (by exact rfl))
            refine rd ?_
            refine dLd tb (u := .bool few) ?_ (hc := fun w' hS _ => Bx.ci (hbW w' hS.2) (i := 6) (by exact rfl))
            refine rd ?_
            rw [hzl4]
            refine GM.eff (Step.callF rfl rfl rfl c57 rfl (fork_okB W4 W4 mb m3 i (i + 1) m3.st.length few h4.lift (fun hf => by rw [hln]; exact hij.2 (hfu ▸ hf))) ?_)
            intro _ W5 ⟨h5, hB5⟩
            have h5b := h4.back h5
            refine ⟨⟨by have := hB5 v4 hbx4; exact this, h5b.ms.kt⟩, ?_⟩
            refine GM.nil ?_
            refine rn ?_
            refine sAd tb (r := ((j + 1 : Nat) : Int)) ?_
            refine rn ?_
            exact G.lp (x := (j, m3)) (j + 1, Rx.fork m3 i (i + 1) m3.st.length few) (by repeat (first | exact Sub.nil _ | refine Sub.cons rfl ?_)) ⟨h5b, by simp only; omega, by simp only; rw [Rx.fork_full]; exact hfu, by simp only; rw [Rx.fork_len]; exact hln, hF⟩ (by simp only; omega)
          · have hje : j = fl.length := by omega
            subst hje
            rw [List.drop_length, Rx.forks] at hF
            rw [← hF]
            refine rn ?_
            refine G.end0 rfl rfl rfl ?_
            exact h3.ms
end Go.Proofs.YtbpkhgehchelhaaDoor
end
section
namespace Go.Rx

def sizeR (n mn : Nat) (mx : Int) (plus : Bool) : Nat := if plus then n + 1 else mn * n + (if mx < 0 then n + 2 else (mx.toNat - mn) * (n + 1))
mutual
def sizeT : T → Nat
  | .emp => 0
  | .set _ _ => 1
  | .bos => 1
  | .eos => 1
  | .grp n t => if n = 0 then sizeT t else sizeT t + 2
  | .seq l => sizeL l
  | .alt a b => sizeT a + sizeT b + 2
  | .rep mn mx _ plus t => sizeR (sizeT t) mn mx plus
def sizeL : List T → Nat
  | [] => 0
  | t :: l => sizeT t + sizeL l
end
def forkK (few : Bool) (a b : Nat) : K := if few then { kOf 4 with a := b, b := a } else { kOf 4 with a := a, b := b }
def copies (c : Nat → List K) (n : Nat) : Nat → Nat → List K
  | 0, _ => []
  | k + 1, p => c p ++ copies c n k (p + n)
def opts (c : Nat → List K) (n : Nat) (few : Bool) (E : Nat) : Nat → Nat → List K
  | 0, _ => []
  | k + 1, p => forkK few (p + 1) E :: (c (p + 1) ++ opts c n few E k (p + 1 + n))
def repC (c : Nat → List K) (n mn : Nat) (mx : Int) (few plus : Bool) (p : Nat) : List K :=
  if plus then c p ++ [forkK few p (p + n + 1)]
  else copies c n mn p ++ (if mx < 0 then forkK few (p + mn * n + 1) (p + mn * n + n + 2) :: (c (p + mn * n + 1) ++ [{ kOf 5 with a := p + mn * n }])
    else opts c n few (p + mn * n + (mx.toNat - mn) * (n + 1)) (mx.toNat - mn) (p + mn * n))
mutual
def codeT : T → Nat → List K
  | .emp, _ => []
  | .set l neg, _ => [{ kOf 0 with l := l, neg := neg }]
  | .bos, _ => [kOf 1]
  | .eos, _ => [kOf 2]
  | .grp n t, p => if n = 0 then codeT t p else { kOf 3 with slot := 2 * n } :: (codeT t (p + 1) ++ [{ kOf 3 with slot := 2 * n + 1 }])
  | .seq l, p => codeL l p
  | .alt a b, p => forkK false (p + 1) (p + 2 + sizeT a) :: (codeT a (p + 1) ++ ({ kOf 5 with a := p + 2 + sizeT a + sizeT b } :: codeT b (p + 2 + sizeT a)))
  | .rep mn mx few plus t, p => repC (codeT t) (sizeT t) mn mx few plus p
def codeL : List T → Nat → List K
  | [], _ => []
  | t :: l, p => codeT t p ++ codeL l (p + sizeT t)
end

/-- f lays the code c, of size n -/
structure Good (f : Mk → Mk) (c : Nat → List K) (n : Nat) : Prop where
  full : ∀ m, m.full = true → (f m).full = true
  lay : ∀ m, m.full = false → m.st.length + n ≤ 2000 → f m = ⟨m.st ++ c m.st.length, false⟩
  over : ∀ m, m.full = false → m.st.length ≤ 2000 → 2000 < m.st.length + n → (f m).full = true
  len : ∀ p, (c p).length = n

theorem Good.nil : Good (fun m => m) (fun _ => []) 0 :=
  ⟨fun _ h => h, fun m h _ => by obtain ⟨st, fu⟩ := m; simp only at h; subst h; simp, fun m _ h1 h2 => by omega, fun _ => rfl⟩
theorem Good.put (k : K) : Good (fun m => (put m k).1) (fun _ => [k]) 1 := by
  refine ⟨fun m h => ?_, fun m h hl => ?_, fun m h h1 h2 => ?_, fun _ => rfl⟩
  · unfold Rx.put; split
    · rfl
    · exact h
  · unfold Rx.put; rw [if_neg (by omega), h]
  · unfold Rx.put; rw [if_pos (by omega)]
theorem Good.comp {f g : Mk → Mk} {c d : Nat → List K} {n n' : Nat} (hf : Good f c n) (hg : Good g d n') : Good (fun m => g (f m)) (fun p => c p ++ d (p + n)) (n + n') := by
  refine ⟨fun m h => hg.full _ (hf.full m h), fun m h hl => ?_, fun m h h1 h2 => ?_, fun p => by rw [List.length_append, hf.len, hg.len]⟩
  · have h1 := hf.lay m h (by omega)
    show g (f m) = _
    rw [h1, hg.lay _ rfl (by simp only [List.length_append, hf.len]; omega)]
    simp only [List.length_append, hf.len, List.append_assoc]
  · by_cases hc : 2000 < m.st.length + n
    · exact hg.full _ (hf.over m h h1 hc)
    · have h3 := hf.lay m h (by omega)
      show (g (f m)).full = true
      rw [h3]
      exact hg.over _ rfl (by simp only [List.length_append, hf.len]; omega) (by simp only [List.length_append, hf.len]; omega)
/-- as make is built: a full maker stays -/
theorem Good.guard {f : Mk → Mk} {c : Nat → List K} {n : Nat} (hf : Good f c n) : Good (fun m => if m.full then m else f m) c n := by
  refine ⟨fun m h => by simp only [h, if_true], fun m h hl => ?_, fun m h h1 h2 => ?_, hf.len⟩
  · simp only [h]; exact hf.lay m h hl
  · simp only [h]; exact hf.over m h h1 h2
theorem Good.congr {f g : Mk → Mk} {c d : Nat → List K} {n n' : Nat} (h : Good f c n) (hf : f = g) (hc : c = d) (hn : n = n') : Good g d n' := by subst hf hc hn; exact h

theorem setAB_at (A : List K) (k : K) (B : List K) (a b : Nat) : setAB (A ++ k :: B) A.length a b = A ++ { k with a := a, b := b } :: B := by
  unfold setAB
  rw [List.getElem?_append_right (Nat.le_refl _), Nat.sub_self]
  simp
theorem setA_at (A : List K) (k : K) (B : List K) (a : Nat) : setA (A ++ k :: B) A.length a = A ++ { k with a := a } :: B := by
  unfold setA
  rw [List.getElem?_append_right (Nat.le_refl _), Nat.sub_self]
  simp
theorem fork_full' (m : Mk) (i a b : Nat) (t : Bool) : (fork m i a b t).full = m.full := by unfold fork; split <;> rfl
theorem jumpTo_full (m : Mk) (i : Nat) : (jumpTo m i).full = m.full := by unfold jumpTo; split <;> rfl
theorem fork_at (A B : List K) (a b : Nat) (few : Bool) : fork ⟨A ++ kOf 4 :: B, false⟩ A.length a b few = ⟨A ++ forkK few a b :: B, false⟩ := by
  unfold fork forkK
  rw [if_neg (by simp)]
  cases few
  · simp only [Bool.false_eq_true, if_false]; rw [setAB_at]
  · simp only [if_true]; rw [setAB_at]
theorem jump_at (A B : List K) (k : K) : jumpTo ⟨A ++ k :: B, false⟩ A.length = ⟨A ++ { k with a := (A ++ k :: B).length } :: B, false⟩ := by
  unfold jumpTo
  rw [if_neg (by simp)]
  simp only
  rw [setA_at]
theorem put_fits {m : Mk} (k : K) (h : m.st.length + 1 ≤ 2000) : put m k = (⟨m.st ++ [k], m.full⟩, m.st.length) := by unfold put; rw [if_neg (by omega)]
theorem put_mk (A : List K) (k : K) (h : A.length + 1 ≤ 2000) : put ⟨A, false⟩ k = (⟨A ++ [k], false⟩, A.length) := put_fits (m := ⟨A, false⟩) k h
theorem put_full {m : Mk} (k : K) (h : m.full = true) : (put m k).1.full = true := (Good.put k).full m h

theorem copies_len {c : Nat → List K} {n : Nat} (h : ∀ p, (c p).length = n) : ∀ k p, (copies c n k p).length = k * n
  | 0, _ => by simp [copies]
  | k + 1, p => by rw [copies, List.length_append, h, copies_len h k, Nat.succ_mul]; omega
theorem opts_len {c : Nat → List K} {n : Nat} (h : ∀ p, (c p).length = n) (few : Bool) (E : Nat) : ∀ k p, (opts c n few E k p).length = k * (n + 1)
  | 0, _ => by simp [opts]
  | k + 1, p => by rw [opts, List.length_cons, List.length_append, h, opts_len h few E k, Nat.succ_mul]; omega

theorem loopN_stop {f : Mk → Mk} {mn n k : Nat} {was : Int} {m : Mk} (h : ¬ (k < mn ∧ ¬ m.full = true ∧ was < (m.st.length : Int))) : loopN f mn n k was m = m := by
  cases n with
  | zero => rfl
  | succ n => rw [loopN, if_neg h]
theorem loopN_full {f : Mk → Mk} {mn n k : Nat} {was : Int} {m : Mk} (h : m.full = true) : loopN f mn n k was m = m := loopN_stop fun ⟨_, h2, _⟩ => h2 h
theorem loopN_lay {f : Mk → Mk} {c : Nat → List K} {sz : Nat} (hf : Good f c sz) (mn : Nat) : ∀ n k (was : Int) m, mn - k ≤ n → was < (m.st.length : Int) → m.full = false → m.st.length + (mn - k) * sz ≤ 2000 →
    loopN f mn n k was m = ⟨m.st ++ copies c sz (mn - k) m.st.length, false⟩
  | 0, k, was, m, hn, hw, hm, hl => by
    have : mn - k = 0 := by omega
    rw [loopN, this, copies, List.append_nil]
    obtain ⟨st, fu⟩ := m
    simp only at hm; rw [hm]
  | n + 1, k, was, m, hn, hw, hm, hl => by
    by_cases hk : k < mn
    · have hs : mn - k = (mn - (k + 1)) + 1 := by omega
      rw [hs, Nat.succ_mul] at hl
      rw [loopN, if_pos ⟨hk, by simp [hm], hw⟩, hs, copies, hf.lay m hm (by omega)]
      by_cases hz : sz = 0
      · have hc : ∀ p, c p = [] := fun p => List.length_eq_zero_iff.1 (by rw [hf.len, hz])
        rw [loopN_stop]
        · have : copies c sz (mn - (k + 1)) (m.st.length + sz) = [] := List.length_eq_zero_iff.1 (by rw [copies_len hf.len, hz, Nat.mul_zero])
          rw [this, List.append_nil]
        · rintro ⟨_, _, h⟩
          simp only [List.length_append, hf.len, hz] at h
          omega
      · rw [loopN_lay hf mn n (k + 1) _ _ (by omega) (by simp only [List.length_append, hf.len]; omega) rfl (by simp only [List.length_append, hf.len]; omega)]
        simp only [List.length_append, hf.len, List.append_assoc]
    · have : mn - k = 0 := by omega
      rw [loopN_stop (fun h => hk h.1), this, copies, List.append_nil]
      obtain ⟨st, fu⟩ := m
      simp only at hm; rw [hm]
theorem loopN_keep {f : Mk → Mk} (mn : Nat) : ∀ n k (was : Int) m, m.full = true → (loopN f mn n k was m).full = true := fun n k was m h => by rw [loopN_full h]; exact h
theorem loopN_over {f : Mk → Mk} {c : Nat → List K} {sz : Nat} (hf : Good f c sz) (mn : Nat) : ∀ n k (was : Int) m, mn - k ≤ n → was < (m.st.length : Int) → m.full = false → m.st.length ≤ 2000 → 2000 < m.st.length + (mn - k) * sz →
    (loopN f mn n k was m).full = true
  | 0, k, was, m, hn, hw, hm, h1, h2 => by
    have : mn - k = 0 := by omega
    rw [this] at h2; omega
  | n + 1, k, was, m, hn, hw, hm, h1, h2 => by
    by_cases hk : k < mn
    · have hs : mn - k = (mn - (k + 1)) + 1 := by omega
      rw [hs, Nat.succ_mul] at h2
      rw [loopN, if_pos ⟨hk, by simp [hm], hw⟩]
      by_cases hz : sz = 0
      · subst hz; omega
      by_cases hc : 2000 < m.st.length + sz
      · exact loopN_keep mn _ _ _ _ (hf.over m hm h1 hc)
      · have h3 := hf.lay m hm (by omega)
        rw [h3]
        exact loopN_over hf mn n (k + 1) _ _ (by omega) (by simp only [List.length_append, hf.len]; omega) rfl (by simp only [List.length_append, hf.len]; omega) (by simp only [List.length_append, hf.len]; omega)
    · have : mn - k = 0 := by omega
      rw [this] at h2; omega

/-- the options as they are laid first, and where their forks are -/
def opts0 (c : Nat → List K) (n : Nat) : Nat → Nat → List K
  | 0, _ => []
  | k + 1, p => kOf 4 :: (c (p + 1) ++ opts0 c n k (p + 1 + n))
def optI (n : Nat) : Nat → Nat → List Nat
  | 0, _ => []
  | k + 1, p => p :: optI n k (p + 1 + n)
theorem loopF_keep {f : Mk → Mk} {n : Nat} {l : List Nat} {m : Mk} (h : m.full = true) : loopF f n l m = (m, l) := by
  cases n with
  | zero => rfl
  | succ n => rw [loopF, if_pos h]
theorem loopF_lay {f : Mk → Mk} {c : Nat → List K} {sz : Nat} (hf : Good f c sz) : ∀ n l m, m.full = false → m.st.length + n * (sz + 1) ≤ 2000 →
    loopF f n l m = (⟨m.st ++ opts0 c sz n m.st.length, false⟩, l ++ optI sz n m.st.length)
  | 0, l, m, hm, hl => by
    rw [loopF, opts0, optI, List.append_nil, List.append_nil]
    obtain ⟨st, fu⟩ := m
    simp only at hm; rw [hm]
  | n + 1, l, m, hm, hl => by
    rw [Nat.succ_mul] at hl
    rw [loopF, if_neg (by simp [hm]), put_fits (m := m) _ (by omega), hm]
    simp only
    rw [hf.lay _ rfl (by simp only [List.length_append, List.length_cons, List.length_nil]; omega)]
    rw [loopF_lay hf n _ _ rfl (by simp only [List.length_append, List.length_cons, List.length_nil, hf.len]; omega)]
    simp only [List.length_append, List.length_cons, List.length_nil, hf.len, List.append_assoc, opts0, optI, List.cons_append, List.nil_append, Nat.zero_add]
    rw [show m.st.length + (sz + 1) = m.st.length + 1 + sz by omega]
theorem loopF_over {f : Mk → Mk} {c : Nat → List K} {sz : Nat} (hf : Good f c sz) : ∀ n l m, m.full = false → m.st.length ≤ 2000 → 2000 < m.st.length + n * (sz + 1) → (loopF f n l m).1.full = true
  | 0, l, m, hm, h1, h2 => by omega
  | n + 1, l, m, hm, h1, h2 => by
    rw [Nat.succ_mul] at h2
    rw [loopF, if_neg (by simp [hm])]
    by_cases h3 : m.st.length = 2000
    · have : (put m (kOf 4)).1.full = true := by unfold put; rw [if_pos (by omega)]
      rw [loopF_keep (hf.full _ this)]; exact hf.full _ this
    · rw [put_fits _ (by omega), hm]
      simp only
      by_cases h4 : 2000 < m.st.length + 1 + sz
      · have := hf.over ⟨m.st ++ [kOf 4], false⟩ rfl (by simp only [List.length_append, List.length_cons, List.length_nil]; omega) (by simp only [List.length_append, List.length_cons, List.length_nil]; omega)
        rw [loopF_keep this]; exact this
      · rw [hf.lay _ rfl (by simp only [List.length_append, List.length_cons, List.length_nil]; omega)]
        exact loopF_over hf n _ _ rfl (by simp only [List.length_append, List.length_cons, List.length_nil, hf.len]; omega) (by simp only [List.length_append, List.length_cons, List.length_nil, hf.len]; omega)
theorem forks_full (few : Bool) : ∀ (l : List Nat) (m : Mk), (forks few l m).full = m.full
  | [], m => rfl
  | i :: l, m => by rw [forks, forks_full few l, fork_full']
theorem forks_lay {c : Nat → List K} {sz : Nat} (hc : ∀ p, (c p).length = sz) (few : Bool) (E : Nat) : ∀ k (A : List K), A.length + k * (sz + 1) = E →
    forks few (optI sz k A.length) ⟨A ++ opts0 c sz k A.length, false⟩ = ⟨A ++ opts c sz few E k A.length, false⟩
  | 0, A, _ => by simp [forks, optI, opts0, opts]
  | k + 1, A, hE => by
    rw [Nat.succ_mul] at hE
    have hl0 : ∀ k p, (opts0 c sz k p).length = k * (sz + 1) := fun k => by
      induction k with
      | zero => intro p; simp [opts0]
      | succ k ih => intro p; rw [opts0, List.length_cons, List.length_append, hc, ih, Nat.succ_mul]; omega
    rw [optI, opts0, opts, forks, fork_at]
    have hlen : (A ++ kOf 4 :: (c (A.length + 1) ++ opts0 c sz k (A.length + 1 + sz))).length = E := by
      simp only [List.length_append, List.length_cons, hc, hl0]; omega
    simp only [hlen]
    have ih := forks_lay hc few E k (A ++ forkK few (A.length + 1) E :: c (A.length + 1)) (by simp only [List.length_append, List.length_cons, hc]; omega)
    have hL : (A ++ forkK few (A.length + 1) E :: c (A.length + 1)).length = A.length + 1 + sz := by simp only [List.length_append, List.length_cons, hc]; omega
    rw [hL] at ih
    simp only [List.append_assoc, List.cons_append] at ih
    exact ih

theorem Good.rep {f : Mk → Mk} {c : Nat → List K} {n : Nat} (hf : Good f c n) (mn : Nat) (mx : Int) (few plus : Bool) : Good (repeatP f mn mx few plus) (repC c n mn mx few plus) (sizeR n mn mx plus) := by
  have hlen : ∀ p, (repC c n mn mx few plus p).length = sizeR n mn mx plus := fun p => by
    unfold repC sizeR
    split
    · simp only [List.length_append, hf.len, List.length_cons, List.length_nil]
    · rw [List.length_append, copies_len hf.len]
      congr 1
      split
      · simp only [List.length_cons, List.length_append, hf.len, List.length_nil]
      · rw [opts_len hf.len]
  cases plus
  · unfold sizeR at hlen ⊢
    unfold repC at hlen ⊢
    simp only [Bool.false_eq_true, if_false] at hlen ⊢
    by_cases hx : mx < 0
    · simp only [hx, if_true] at hlen ⊢
      refine ⟨fun m h => ?_, fun m h hl => ?_, fun m h h1 h2 => ?_, hlen⟩
      · unfold repeatP
        simp only [Bool.false_eq_true, if_false, hx, if_true]
        rw [fork_full']
        exact put_full _ (hf.full _ (put_full _ (loopN_keep mn _ _ _ _ h)))
      · unfold repeatP
        simp only [Bool.false_eq_true, if_false, hx, if_true]
        rw [loopN_lay hf mn mn 0 (-1) m (by omega) (by omega) h (by rw [Nat.sub_zero]; omega), Nat.sub_zero]
        have hA : (m.st ++ copies c n mn m.st.length).length = m.st.length + mn * n := by rw [List.length_append, copies_len hf.len]
        generalize hAe : m.st ++ copies c n mn m.st.length = A at hA
        rw [put_mk A (kOf 4) (by omega)]
        simp only
        rw [hf.lay ⟨A ++ [kOf 4], false⟩ rfl (by simp only [List.length_append, List.length_cons, List.length_nil]; omega)]
        rw [put_mk _ _ (by simp only [List.length_append, List.length_cons, List.length_nil, hf.len]; omega)]
        simp only [List.append_assoc, List.cons_append, List.nil_append]
        rw [fork_at]
        simp only [List.length_append, List.length_cons, List.length_nil, hf.len, ← hAe, copies_len hf.len, List.append_assoc]
        congr 5
        omega
      · unfold repeatP
        simp only [Bool.false_eq_true, if_false, hx, if_true]
        rw [fork_full']
        by_cases h3 : 2000 < m.st.length + mn * n
        · exact put_full _ (hf.full _ (put_full _ (loopN_over hf mn mn 0 (-1) m (by omega) (by omega) h h1 (by rw [Nat.sub_zero]; exact h3))))
        · rw [loopN_lay hf mn mn 0 (-1) m (by omega) (by omega) h (by rw [Nat.sub_zero]; omega), Nat.sub_zero]
          have hA : (m.st ++ copies c n mn m.st.length).length = m.st.length + mn * n := by rw [List.length_append, copies_len hf.len]
          generalize m.st ++ copies c n mn m.st.length = A at hA
          have hg := ((Good.put (kOf 4)).comp hf).comp (Good.put { kOf 5 with a := A.length })
          have := hg.over ⟨A, false⟩ rfl (by show A.length ≤ 2000; omega) (by show 2000 < A.length + _; omega)
          by_cases h4 : 2000 ≤ A.length
          · refine put_full _ (hf.full _ ?_)
            unfold Rx.put; rw [if_pos (by exact h4)]
          · have e : (Rx.put ⟨A, false⟩ (kOf 4)).2 = A.length := by rw [put_mk A (kOf 4) (by omega)]
            rw [e]
            exact this
    · simp only [hx, if_false] at hlen ⊢
      refine ⟨fun m h => ?_, fun m h hl => ?_, fun m h h1 h2 => ?_, hlen⟩
      · unfold repeatP
        simp only [Bool.false_eq_true, if_false, hx]
        rw [forks_full, loopN_full h, loopF_keep h]; exact h
      · unfold repeatP
        simp only [Bool.false_eq_true, if_false, hx]
        rw [loopN_lay hf mn mn 0 (-1) m (by omega) (by omega) h (by rw [Nat.sub_zero]; omega), Nat.sub_zero]
        have hA : (m.st ++ copies c n mn m.st.length).length = m.st.length + mn * n := by rw [List.length_append, copies_len hf.len]
        generalize hAe : m.st ++ copies c n mn m.st.length = A at hA
        rw [loopF_lay hf _ _ _ rfl (by simp only; omega)]
        simp only [List.nil_append]
        rw [forks_lay hf.len few (m.st.length + mn * n + (mx.toNat - mn) * (n + 1)) _ A (by omega), ← hAe, List.append_assoc, ← hA, ← hAe]
      · unfold repeatP
        simp only [Bool.false_eq_true, if_false, hx]
        rw [forks_full]
        by_cases h3 : 2000 < m.st.length + mn * n
        · have := loopN_over hf mn mn 0 (-1) m (by omega) (by omega) h h1 (by rw [Nat.sub_zero]; exact h3)
          rw [loopF_keep this]; exact this
        · rw [loopN_lay hf mn mn 0 (-1) m (by omega) (by omega) h (by rw [Nat.sub_zero]; omega), Nat.sub_zero]
          have hA : (m.st ++ copies c n mn m.st.length).length = m.st.length + mn * n := by rw [List.length_append, copies_len hf.len]
          generalize m.st ++ copies c n mn m.st.length = A at hA
          exact loopF_over hf _ _ _ rfl (by simp only; omega) (by simp only; omega)
  · unfold sizeR at hlen ⊢
    unfold repC at hlen ⊢
    simp only [if_true] at hlen ⊢
    refine ⟨fun m h => ?_, fun m h hl => ?_, fun m h h1 h2 => ?_, hlen⟩
    · unfold repeatP
      simp only [if_true]
      rw [fork_full']; exact put_full _ (hf.full m h)
    · unfold repeatP
      simp only [if_true]
      rw [hf.lay m h (by omega), put_fits _ (by simp only [List.length_append, hf.len]; omega)]
      simp only [List.append_assoc]
      have := fork_at (m.st ++ c m.st.length) [] m.st.length ((m.st ++ c m.st.length).length + 1) few
      simp only [List.append_assoc] at this
      rw [this]
      simp only [List.length_append, hf.len]
    · unfold repeatP
      simp only [if_true]
      rw [fork_full']
      exact ((hf.comp (Good.put (kOf 4))).over m h h1 (by omega))

theorem good_all (t : T) : Good (make t) (codeT t) (sizeT t) := by
  refine T.rec (motive_1 := fun t => Good (make t) (codeT t) (sizeT t)) (motive_2 := fun l => Good (makeL l) (codeL l) (sizeL l)) ?_ ?_ ?_ ?_ ?_ ?_ ?_ ?_ ?_ ?_ t
  · exact Good.nil.congr (by funext m; simp [make]) (by funext p; simp [codeT]) (by simp [sizeT])
  · intro l neg
    exact (Good.put { kOf 0 with l := l, neg := neg }).guard.congr (by funext m; simp [make]) (by funext p; simp [codeT]) (by simp [sizeT])
  · exact (Good.put (kOf 1)).guard.congr (by funext m; simp [make]) (by funext p; simp [codeT]) (by simp [sizeT])
  · exact (Good.put (kOf 2)).guard.congr (by funext m; simp [make]) (by funext p; simp [codeT]) (by simp [sizeT])
  · intro n t ih
    by_cases hn : n = 0
    · exact ih.guard.congr (by funext m; simp [make, hn]) (by funext p; simp [codeT, hn]) (by simp [sizeT, hn])
    · exact (((Good.put { kOf 3 with slot := 2 * n }).comp ih).comp (Good.put { kOf 3 with slot := 2 * n + 1 })).guard.congr (by funext m; simp [make, hn]) (by funext p; simp [codeT, hn]) (by simp [sizeT, hn]; omega)
  · intro l ih
    exact ih.guard.congr (by funext m; simp [make]) (by funext p; simp [codeT]) (by simp [sizeT])
  · intro a b iha ihb
    have hlen : ∀ p, (codeT (.alt a b) p).length = sizeT (.alt a b) := fun p => by
      simp only [codeT, sizeT, List.length_cons, List.length_append, iha.len, ihb.len]; omega
    refine ⟨fun m h => by simp only [make, h, if_true], fun m h hl => ?_, fun m h h1 h2 => ?_, hlen⟩
    · simp only [sizeT] at hl
      simp only [make, h, Bool.false_eq_true, if_false]
      rw [put_fits (m := m) _ (by omega), h]
      simp only
      rw [iha.lay ⟨m.st ++ [kOf 4], false⟩ rfl (by simp only [List.length_append, List.length_cons, List.length_nil]; omega), put_mk _ _ (by simp only [List.length_append, List.length_cons, List.length_nil, iha.len]; omega)]
      simp only [List.append_assoc, List.cons_append, List.nil_append]
      rw [fork_at, ihb.lay _ rfl (by simp only [List.length_append, List.length_cons, List.length_nil, iha.len]; omega)]
      simp only [List.append_assoc, List.cons_append, List.nil_append]
      generalize hF : forkK false (m.st.length + 1) _ = F
      generalize hB : codeT b _ = B
      have := jump_at (m.st ++ F :: codeT a (m.st ++ [kOf 4]).length) B (kOf 5)
      simp only [List.append_assoc, List.cons_append] at this
      have hL : (m.st ++ kOf 4 :: codeT a (m.st ++ [kOf 4]).length).length = (m.st ++ F :: codeT a (m.st ++ [kOf 4]).length).length := by simp
      rw [hL, this, ← hF, ← hB]
      simp only [codeT, List.length_append, List.length_cons, List.length_nil, iha.len, ihb.len]
      congr 3
      · congr 1; omega
      · congr 2
        · congr 1; omega
        · congr 1; omega
    · simp only [sizeT] at h2
      simp only [make, h, Bool.false_eq_true, if_false]
      rw [jumpTo_full]
      by_cases h3 : 2000 < m.st.length + (1 + sizeT a + 1)
      · refine ihb.full _ ?_
        rw [fork_full']
        exact (((Good.put (kOf 4)).comp iha).comp (Good.put (kOf 5))).over m h h1 h3
      · have := (((Good.put (kOf 4)).comp iha).comp (Good.put (kOf 5))).lay m h (by omega)
        rw [this]
        generalize hst : m.st ++ ([kOf 4] ++ codeT a (m.st.length + 1) ++ [kOf 5]) = st
        have hsl : st.length = m.st.length + 1 + sizeT a + 1 := by rw [← hst]; simp only [List.length_append, List.length_cons, List.length_nil, iha.len]; omega
        refine ihb.over _ (by rw [fork_full']) ?_ ?_
        all_goals
          have hfl : ∀ i x y t, (fork ⟨st, false⟩ i x y t).st.length = st.length := fun i x y t => by
            unfold fork setAB
            simp only [Bool.false_eq_true, if_false]
            cases t <;> simp only [Bool.false_eq_true, if_false, if_true] <;> split <;> simp
          rw [hfl]; omega
  · intro mn mx few plus t ih
    exact (ih.rep mn mx few plus).guard.congr (by funext m; simp [make]) (by funext p; simp [codeT]) (by simp [sizeT])
  · exact Good.nil.congr (by funext m; simp [makeL]) (by funext p; simp [codeL]) (by simp [sizeL])
  · intro t l iht ihl
    exact (iht.comp ihl).congr (by funext m; simp [makeL]) (by funext p; simp [codeL]) (by simp [sizeL])

/-- a program, laid out -/
def progT (t : T) : List K := codeT t 0 ++ [kOf 6]
theorem codeT_len (t : T) (p : Nat) : (codeT t p).length = sizeT t := (good_all t).len p
theorem make_prog (t : T) : let m := (put (make t ⟨[], false⟩) (kOf 6)).1
    (sizeT t + 1 ≤ 2000 → m = ⟨progT t, false⟩) ∧ (2000 < sizeT t + 1 → m.full = true) := by
  have h := (good_all t).comp (Good.put (kOf 6))
  refine ⟨fun hl => ?_, fun hl => ?_⟩
  · have := h.lay ⟨[], false⟩ rfl (by simp only [List.length_nil]; omega)
    simpa [progT] using this
  · exact h.over ⟨[], false⟩ rfl (by simp) (by simp only [List.length_nil]; omega)
theorem compileP_eq (s : List UInt8) : compileP s = if 256 < s.length then .error (0, 2) else match readP s with
    | .error e => .error (e, 1)
    | .ok (t, g) => if 2000 < sizeT t + 1 then .error (0, 2) else .ok (progT t, g) := by
  unfold compileP
  split
  · rfl
  · rcases readP s with e | ⟨t, g⟩
    · rfl
    · have hm := make_prog t
      simp only at hm ⊢
      by_cases hl : 2000 < sizeT t + 1
      · rw [if_pos (hm.2 hl), if_pos hl]
      · rw [hm.1 (by omega), if_neg hl]; rfl
end Go.Rx
end
section
namespace Go.Rx

/-- one further from a step and a place -/
def nexts (st : List K) (text : List UInt8) (c : Nat × Nat) : List (Nat × Nat) :=
  match st[c.1]? with
  | none => []
  | some k => match k.kind with
    | 0 => if c.2 < text.length ∧ has k.l k.neg (dec text c.2).1 = true then [(c.1 + 1, c.2 + (dec text c.2).2)] else []
    | 1 => if 0 < c.2 then [] else [(c.1 + 1, c.2)]
    | 2 => if c.2 < text.length then [] else [(c.1 + 1, c.2)]
    | 3 => [(c.1 + 1, c.2)]
    | 4 => [(k.a, c.2), (k.b, c.2)]
    | 5 => [(k.a, c.2)]
    | _ => []
def isYes (st : List K) (text : List UInt8) (c : Nat × Nat) : Prop := ∃ k, st[c.1]? = some k ∧ 6 ≤ k.kind ∧ ¬ c.2 < text.length
def AccN (st : List K) (text : List UInt8) : Nat → Nat × Nat → Prop
  | 0, _ => False
  | n + 1, c => isYes st text c ∨ ∃ d ∈ nexts st text c, AccN st text n d
def Acc (st : List K) (text : List UInt8) (c : Nat × Nat) : Prop := ∃ n, AccN st text n c
theorem Acc.step {st : List K} {text : List UInt8} {c d : Nat × Nat} (h : Acc st text d) (hd : d ∈ nexts st text c) : Acc st text c := by
  obtain ⟨n, h⟩ := h
  exact ⟨n + 1, .inr ⟨d, hd, h⟩⟩
theorem Acc.yes {st : List K} {text : List UInt8} {c : Nat × Nat} (h : isYes st text c) : Acc st text c := ⟨1, .inl h⟩

/-- a program whose places are all in it -/
structure WfP (st : List K) (g : Nat) : Prop where
  pos : 0 < st.length
  kind : ∀ (i : Nat) (k : K), st[i]? = some k → k.kind ≤ 6
  next : ∀ (i : Nat) (k : K), st[i]? = some k → k.kind ≤ 3 → i + 1 < st.length
  a : ∀ (i : Nat) (k : K), st[i]? = some k → k.kind = 4 ∨ k.kind = 5 → k.a < st.length
  b : ∀ (i : Nat) (k : K), st[i]? = some k → k.kind = 4 → k.b < st.length
  slot : ∀ (i : Nat) (k : K), st[i]? = some k → k.kind = 3 → k.slot < 2 * g + 2

def okB (st : List K) (g : Nat) (text : List UInt8) : Bk → Prop
  | .fork pc at_ => pc < st.length ∧ at_ ≤ text.length
  | .note slot _ => slot < 2 * g + 2
structure OkR (st : List K) (g : Nat) (text : List UInt8) (r : Rs) : Prop where
  notes : r.notes.length = 2 * g + 2
  seen : r.seen.length = st.length * (text.length + 1)
  stack : ∀ b ∈ r.stack, okB st g text b
/-- how many are not yet seen -/
def unseen (r : Rs) : Nat := r.seen.count false

theorem count_set : ∀ (l : List Bool) (i : Nat), l[i]? = some false → (l.set i true).count false + 1 = l.count false
  | [], i, h => by simp at h
  | x :: l, 0, h => by
    simp only [List.getElem?_cons_zero, Option.some.injEq] at h
    subst h
    simp
  | x :: l, i + 1, h => by
    simp only [List.getElem?_cons_succ] at h
    have := count_set l i h
    rw [List.set_cons_succ, List.count_cons, List.count_cons]
    omega
theorem ix_lt {st : List K} {text : List UInt8} {pc at_ : Nat} (h1 : pc < st.length) (h2 : at_ ≤ text.length) : pc * (text.length + 1) + at_ < st.length * (text.length + 1) := by
  have : (pc + 1) * (text.length + 1) ≤ st.length * (text.length + 1) := Nat.mul_le_mul_right _ h1
  rw [Nat.succ_mul] at this
  omega
theorem ix_inj {W pc at_ pc' at' : Nat} (h1 : at_ < W) (h2 : at' < W) (h : pc * W + at_ = pc' * W + at') : pc = pc' ∧ at_ = at' := by
  have e1 : (pc * W + at_) / W = pc := by rw [Nat.mul_comm, Nat.mul_add_div (by omega), Nat.div_eq_of_lt h1, Nat.add_zero]
  have e2 : (pc' * W + at') / W = pc' := by rw [Nat.mul_comm, Nat.mul_add_div (by omega), Nat.div_eq_of_lt h2, Nat.add_zero]
  have : pc = pc' := by rw [← e1, ← e2, h]
  subst this
  omega

/-- the step of a way, in other words -/
theorem wayP_eq {st : List K} {g : Nat} {text : List UInt8} (hw : WfP st g) {pc at_ : Nat} {r : Rs} (hr : OkR st g text r) (hp : pc < st.length) (ha : at_ ≤ text.length) :
    (r.seen[pc * (text.length + 1) + at_]? = some true ∧ wayP st text pc at_ r = .stop r) ∨
    (r.seen[pc * (text.length + 1) + at_]? = some false ∧ ∃ k, st[pc]? = some k ∧
      ((nexts st text (pc, at_) = [] ∧ ¬ isYes st text (pc, at_) ∧ wayP st text pc at_ r = .stop ⟨r.notes, r.seen.set (pc * (text.length + 1) + at_) true, r.stack⟩) ∨
       (isYes st text (pc, at_) ∧ wayP st text pc at_ r = .yes ((r.notes.set 0 0).set 1 at_)) ∨
       (∃ c, nexts st text (pc, at_) = [c] ∧ c.1 < st.length ∧ c.2 ≤ text.length ∧ ¬ isYes st text (pc, at_) ∧ k.kind ≠ 3 ∧ wayP st text pc at_ r = .go c.1 c.2 ⟨r.notes, r.seen.set (pc * (text.length + 1) + at_) true, r.stack⟩) ∨
       (k.kind = 3 ∧ k.slot < 2 * g + 2 ∧ nexts st text (pc, at_) = [(pc + 1, at_)] ∧ pc + 1 < st.length ∧ ¬ isYes st text (pc, at_) ∧
         wayP st text pc at_ r = .go (pc + 1) at_ ⟨r.notes.set k.slot at_, r.seen.set (pc * (text.length + 1) + at_) true, r.stack ++ [.note k.slot (r.notes.getD k.slot 0)]⟩) ∨
       (k.kind = 4 ∧ nexts st text (pc, at_) = [(k.a, at_), (k.b, at_)] ∧ k.a < st.length ∧ k.b < st.length ∧ ¬ isYes st text (pc, at_) ∧
         wayP st text pc at_ r = .go k.a at_ ⟨r.notes, r.seen.set (pc * (text.length + 1) + at_) true, r.stack ++ [.fork k.b at_]⟩))) := by
  have hix := ix_lt hp ha
  rw [← hr.seen] at hix
  unfold wayP
  simp only [List.getD_eq_getElem?_getD, List.getElem?_eq_getElem hix, Option.getD_some]
  rcases hs : r.seen[pc * (text.length + 1) + at_] with _ | _
  · right
    refine ⟨rfl, ?_⟩
    have hk : st[pc]? = some st[pc] := List.getElem?_eq_getElem hp
    generalize st[pc] = k at hk
    refine ⟨k, hk, ?_⟩
    have hkd := hw.kind _ _ hk
    have hnx := hw.next _ _ hk
    have hya : k.kind < 6 → ¬ isYes st text (pc, at_) := fun h ⟨k', h1, h2, _⟩ => by
      simp only [hk, Option.some.injEq] at h1
      subst h1; omega
    simp only [Bool.false_eq_true, if_false, hk]
    unfold nexts
    simp only [hk]
    rcases hkk : k.kind with _ | _ | _ | _ | _ | _ | n
    · simp only
      by_cases h1 : at_ = text.length
      · left
        refine ⟨by rw [if_neg (by omega)], hya (by omega), by rw [if_pos h1]⟩
      · rw [if_neg h1]
        by_cases h2 : has k.l k.neg (dec text at_).1 = true
        · right; right; left
          have := dec_le (show at_ < text.length by omega)
          refine ⟨_, by rw [if_pos ⟨by omega, h2⟩], hnx (by omega), by simpa using this, hya (by omega), by omega, by rw [if_pos h2]⟩
        · left
          refine ⟨by rw [if_neg fun h => h2 h.2], hya (by omega), by rw [if_neg h2]⟩
    · simp only
      by_cases h1 : 0 < at_
      · left; exact ⟨by rw [if_pos h1], hya (by omega), by rw [if_pos h1]⟩
      · right; right; left; exact ⟨_, by rw [if_neg h1], hnx (by omega), ha, hya (by omega), by omega, by rw [if_neg h1]⟩
    · simp only
      by_cases h1 : at_ < text.length
      · left; exact ⟨by rw [if_pos h1], hya (by omega), by rw [if_pos h1]⟩
      · right; right; left; exact ⟨_, by rw [if_neg h1], hnx (by omega), ha, hya (by omega), by omega, by rw [if_neg h1]⟩
    · simp only
      right; right; right; left
      exact ⟨trivial, hw.slot _ _ hk (by omega), trivial, hnx (by omega), hya (by omega), trivial⟩
    · simp only
      right; right; right; right
      exact ⟨trivial, trivial, hw.a _ _ hk (by omega), hw.b _ _ hk (by omega), hya (by omega), trivial⟩
    · simp only
      right; right; left
      exact ⟨_, rfl, hw.a _ _ hk (by omega), ha, hya (by omega), by omega, rfl⟩
    · simp only
      by_cases h1 : at_ < text.length
      · left; exact ⟨trivial, fun ⟨_, _, _, h⟩ => h h1, by rw [if_pos h1]⟩
      · right; left; exact ⟨⟨k, hk, by omega, h1⟩, by rw [if_neg h1]⟩
  · left
    exact ⟨rfl, by simp⟩

/-- the state stays whole, and gets less -/
theorem wayP_ok {st : List K} {g : Nat} {text : List UInt8} (hw : WfP st g) {pc at_ : Nat} {r : Rs} (hr : OkR st g text r) (hp : pc < st.length) (ha : at_ ≤ text.length) :
    match wayP st text pc at_ r with
    | .stop r' => OkR st g text r' ∧ 2 * unseen r' + r'.stack.length ≤ 2 * unseen r + r.stack.length
    | .yes l => l.length = 2 * g + 2
    | .go pc' at' r' => OkR st g text r' ∧ pc' < st.length ∧ at' ≤ text.length ∧ unseen r' + 1 = unseen r ∧ 2 * unseen r' + r'.stack.length < 2 * unseen r + r.stack.length := by
  rcases wayP_eq hw hr hp ha with ⟨_, h⟩ | ⟨hs, k, hk, h⟩
  · rw [h]; exact ⟨hr, Nat.le_refl _⟩
  · have hc := count_set _ _ hs
    rcases h with ⟨_, _, h⟩ | ⟨_, h⟩ | ⟨c, _, h1, h2, _, _, h⟩ | ⟨_, hsl, _, h1, _, h⟩ | ⟨_, _, h1, h2, _, h⟩
    · rw [h]
      exact ⟨⟨hr.notes, by simp [hr.seen], hr.stack⟩, by unfold unseen; simp only; omega⟩
    · rw [h]; simp [hr.notes]
    · rw [h]
      exact ⟨⟨hr.notes, by simp [hr.seen], hr.stack⟩, h1, h2, by unfold unseen; simp only; omega, by unfold unseen; simp only; omega⟩
    · rw [h]
      refine ⟨⟨by simp [hr.notes], by simp [hr.seen], fun b hb => ?_⟩, h1, ha, by unfold unseen; simp only; omega, by unfold unseen; simp only [List.length_append, List.length_cons, List.length_nil]; omega⟩
      simp only [List.mem_append, List.mem_cons, List.not_mem_nil, or_false] at hb
      rcases hb with hb | rfl
      · exact hr.stack b hb
      · exact hsl
    · rw [h]
      refine ⟨⟨hr.notes, by simp [hr.seen], fun b hb => ?_⟩, h1, ha, by unfold unseen; simp only; omega, by unfold unseen; simp only [List.length_append, List.length_cons, List.length_nil]; omega⟩
      simp only [List.mem_append, List.mem_cons, List.not_mem_nil, or_false] at hb
      rcases hb with hb | rfl
      · exact hr.stack b hb
      · exact ⟨h2, ha⟩
theorem wayL_ok {st : List K} {g : Nat} {text : List UInt8} (hw : WfP st g) : ∀ (n pc at_ : Nat) (r : Rs), OkR st g text r → pc < st.length → at_ ≤ text.length → unseen r < n →
    match wayL st text n pc at_ r with
    | (r', none) => OkR st g text r' ∧ 2 * unseen r' + r'.stack.length ≤ 2 * unseen r + r.stack.length
    | (_, some l) => l.length = 2 * g + 2
  | 0, pc, at_, r, hr, hp, ha, hn => by omega
  | n + 1, pc, at_, r, hr, hp, ha, hn => by
    have h := wayP_ok hw hr hp ha
    rw [wayL]
    generalize wayP st text pc at_ r = W at h ⊢
    rcases W with ⟨pc', at', r'⟩ | r' | l
    · simp only at h ⊢
      have ih := wayL_ok hw n pc' at' r' h.1 h.2.1 h.2.2.1 (by omega)
      generalize wayL st text n pc' at' r' = W at ih ⊢
      rcases W with ⟨r2, _ | l⟩
      · exact ⟨ih.1, by omega⟩
      · exact ih
    · exact h
    · exact h

/-! ### What is found is there -/
theorem okPop {st : List K} {g : Nat} {text : List UInt8} {r : Rs} (hr : OkR st g text r) (hd : List Int) (hl : hd.length = r.notes.length) : OkR st g text ⟨hd, r.seen, r.stack.dropLast⟩ :=
  ⟨by simp only [hl, hr.notes], hr.seen, fun b hb => hr.stack b (List.dropLast_subset _ hb)⟩
/-! ### What is there is found -/
def sn (text : List UInt8) (r : Rs) (p q : Nat) : Prop := r.seen[p * (text.length + 1) + q]? = some true
def rs0 (st : List K) (g : Nat) (text : List UInt8) : Rs := ⟨List.replicate (2 * g + 2) (-1), List.replicate (st.length * (text.length + 1)) false, [.fork 0 0]⟩
theorem rs0_ok {st : List K} {g : Nat} {text : List UInt8} (hw : WfP st g) : OkR st g text (rs0 st g text) :=
  ⟨by simp [rs0], by simp [rs0], fun b hb => by simp [rs0] at hb; subst hb; exact ⟨hw.pos, Nat.zero_le _⟩⟩
theorem rs0_less {st : List K} {g : Nat} {text : List UInt8} : 2 * unseen (rs0 st g text) + (rs0 st g text).stack.length < 2 * (st.length * (text.length + 1)) + 2 := by
  unfold unseen rs0; simp
end Go.Rx
end
section
namespace Go.Rx

def iter (R : Nat → Nat → Prop) : Nat → Nat → Nat → Prop
  | 0, i, j => i = j
  | k + 1, i, j => ∃ m, R i m ∧ iter R k m j
mutual
/-- what a tree takes of a text, from a place to a place -/
def den (text : List UInt8) : T → Nat → Nat → Prop
  | .emp, i, j => i = j
  | .set l neg, i, j => i < text.length ∧ has l neg (dec text i).1 = true ∧ j = i + (dec text i).2
  | .bos, i, j => ¬ 0 < i ∧ j = i
  | .eos, i, j => ¬ i < text.length ∧ j = i
  | .grp _ t, i, j => den text t i j
  | .seq l, i, j => denL text l i j
  | .alt a b, i, j => den text a i j ∨ den text b i j
  | .rep mn mx _ plus t, i, j => ∃ k, (if plus then 1 ≤ k else mn ≤ k ∧ (mx < 0 ∨ k ≤ mn + (mx.toNat - mn))) ∧ iter (den text t) k i j
def denL (text : List UInt8) : List T → Nat → Nat → Prop
  | [], i, j => i = j
  | t :: l, i, j => ∃ m, den text t i m ∧ denL text l m j
end

theorem iter_add (R : Nat → Nat → Prop) : ∀ k m i j, iter R (k + m) i j ↔ ∃ x, iter R k i x ∧ iter R m x j
  | 0, m, i, j => by rw [Nat.zero_add]; exact ⟨fun h => ⟨i, rfl, h⟩, fun ⟨x, h1, h2⟩ => by have h1 : i = x := h1; subst h1; exact h2⟩
  | k + 1, m, i, j => by
    rw [show k + 1 + m = (k + m) + 1 by omega, iter]
    constructor
    · rintro ⟨y, h1, h2⟩
      obtain ⟨x, h3, h4⟩ := (iter_add R k m y j).1 h2
      exact ⟨x, ⟨y, h1, h3⟩, h4⟩
    · rintro ⟨x, ⟨y, h1, h3⟩, h4⟩
      exact ⟨y, h1, (iter_add R k m y j).2 ⟨x, h3, h4⟩⟩

/-- code c of size n does R -/
structure Sem (text : List UInt8) (c : Nat → List K) (n : Nat) (R : Nat → Nat → Prop) : Prop where
  len : ∀ p, (c p).length = n
  fwd : ∀ A B N i, i ≤ text.length → AccN (A ++ (c A.length ++ B)) text N (A.length, i) → ∃ j M, R i j ∧ M ≤ N ∧ j ≤ text.length ∧ AccN (A ++ (c A.length ++ B)) text M (A.length + n, j)
  bwd : ∀ A B i j, i ≤ text.length → R i j → j ≤ text.length ∧ (Acc (A ++ (c A.length ++ B)) text (A.length + n, j) → Acc (A ++ (c A.length ++ B)) text (A.length, i))

theorem Sem.fwd' {text : List UInt8} {c : Nat → List K} {n : Nat} {R : Nat → Nat → Prop} (h : Sem text c n R) (A B : List K) {st : List K} {p N i : Nat} (e : st = A ++ (c p ++ B)) (hp : A.length = p) (hi : i ≤ text.length)
    (ha : AccN st text N (p, i)) : ∃ j M, R i j ∧ M ≤ N ∧ j ≤ text.length ∧ AccN st text M (p + n, j) := by
  subst hp e; exact h.fwd A B N i hi ha
theorem Sem.bwd' {text : List UInt8} {c : Nat → List K} {n : Nat} {R : Nat → Nat → Prop} (h : Sem text c n R) (A B : List K) {st : List K} {p i j : Nat} (e : st = A ++ (c p ++ B)) (hp : A.length = p) (hi : i ≤ text.length)
    (hr : R i j) : j ≤ text.length ∧ (Acc st text (p + n, j) → Acc st text (p, i)) := by
  subst hp e; exact h.bwd A B i j hi hr
theorem at_app (A : List K) (k : K) (B : List K) : (A ++ k :: B)[A.length]? = some k := by
  rw [List.getElem?_append_right (Nat.le_refl _), Nat.sub_self, List.getElem?_cons_zero]

theorem Sem.nil (text : List UInt8) : Sem text (fun _ => []) 0 (fun i j => i = j) :=
  ⟨fun _ => rfl, fun A B N i hi h => ⟨i, N, rfl, Nat.le_refl _, hi, h⟩, fun A B i j hi h => ⟨by omega, fun k => by subst h; exact k⟩⟩
/-- one step that goes on -/
theorem Sem.one (text : List UInt8) (k : K) (R : Nat → Nat → Prop) (hk : k.kind < 6)
    (hn : ∀ st pc i, i ≤ text.length → st[pc]? = some k → ∀ d, d ∈ nexts st text (pc, i) ↔ (d.1 = pc + 1 ∧ R i d.2)) (hR : ∀ i j, i ≤ text.length → R i j → j ≤ text.length) : Sem text (fun _ => [k]) 1 R := by
  have hy : ∀ st pc i, st[pc]? = some k → ¬ isYes st text (pc, i) := fun st pc i h ⟨k', h1, h2, _⟩ => by
    simp only [h, Option.some.injEq] at h1; subst h1; omega
  refine ⟨fun _ => rfl, fun A B N i hi h => ?_, fun A B i j hi h => ⟨hR i j hi h, fun ha => ?_⟩⟩
  · have hat : (A ++ ([k] ++ B))[A.length]? = some k := at_app A k B
    cases N with
    | zero => exact h.elim
    | succ N =>
      rcases h with h | ⟨⟨p, q⟩, hd, h⟩
      · exact absurd h (hy _ _ _ hat)
      · obtain ⟨h1, h2⟩ := (hn _ _ _ hi hat _).1 hd
        simp only at h1 h2
        subst h1
        exact ⟨q, N, h2, by omega, hR i q hi h2, h⟩
  · have hat : (A ++ ([k] ++ B))[A.length]? = some k := at_app A k B
    exact ha.step ((hn _ _ _ hi hat (A.length + 1, j)).2 ⟨rfl, h⟩)
theorem Sem.comp {text : List UInt8} {c d : Nat → List K} {n n' : Nat} {R R' : Nat → Nat → Prop} (hc : Sem text c n R) (hd : Sem text d n' R') :
    Sem text (fun p => c p ++ d (p + n)) (n + n') (fun i j => ∃ m, R i m ∧ R' m j) := by
  have l1 : ∀ A : List K, (A ++ c A.length).length = A.length + n := fun A => by rw [List.length_append, hc.len]
  refine ⟨fun p => by rw [List.length_append, hc.len, hd.len], fun A B N i hi h => ?_, fun A B i j hi ⟨m, h1, h2⟩ => ?_⟩
  · obtain ⟨m, M, h1, h2, h3, h4⟩ := hc.fwd' A (d (A.length + n) ++ B) (by simp only [List.append_assoc]) rfl hi h
    obtain ⟨j, M', h5, h6, h7, h8⟩ := hd.fwd' (A ++ c A.length) B (by simp only [List.append_assoc]) (l1 A) h3 h4
    exact ⟨j, M', ⟨m, h1, h5⟩, by omega, h7, by rw [← Nat.add_assoc]; exact h8⟩
  · obtain ⟨hm, k1⟩ := hc.bwd' A (d (A.length + n) ++ B) (st := A ++ ((c A.length ++ d (A.length + n)) ++ B)) (by simp only [List.append_assoc]) rfl hi h1
    obtain ⟨hj, k2⟩ := hd.bwd' (A ++ c A.length) B (st := A ++ ((c A.length ++ d (A.length + n)) ++ B)) (by simp only [List.append_assoc]) (l1 A) hm h2
    exact ⟨hj, fun ha => k1 (k2 (by rw [Nat.add_assoc]; exact ha))⟩
theorem Sem.congr {text : List UInt8} {c d : Nat → List K} {n n' : Nat} {R R' : Nat → Nat → Prop} (h : Sem text c n R) (hc : c = d) (hn : n = n') (hR : ∀ i j, R i j ↔ R' i j) : Sem text d n' R' := by
  subst hc hn
  have : R = R' := by funext i j; exact propext (hR i j)
  subst this; exact h

theorem Sem.copies {text : List UInt8} {c : Nat → List K} {n : Nat} {R : Nat → Nat → Prop} (hc : Sem text c n R) : ∀ k, Sem text (copies c n k) (k * n) (iter R k)
  | 0 => (Sem.nil text).congr (by funext p; rfl) (by simp) (fun i j => Iff.rfl)
  | k + 1 => (hc.comp (hc.copies k)).congr (by funext p; rfl) (by rw [Nat.succ_mul]; omega) (fun i j => Iff.rfl)

/-- where a fork leads -/
theorem fork_nexts {st : List K} {text : List UInt8} {pc a b i : Nat} {few : Bool} (h : st[pc]? = some (forkK few a b)) (d : Nat × Nat) : d ∈ nexts st text (pc, i) ↔ d = (a, i) ∨ d = (b, i) := by
  unfold nexts forkK at *
  cases few
  · simp only [Bool.false_eq_true, if_false] at h
    simp only [h, kOf]
    simp
  · simp only [if_true] at h
    simp only [h, kOf]
    simp only [List.mem_cons, List.not_mem_nil, or_false]
    exact Or.comm
theorem fork_no {st : List K} {text : List UInt8} {pc a b i : Nat} {few : Bool} (h : st[pc]? = some (forkK few a b)) : ¬ isYes st text (pc, i) := fun ⟨k', h1, h2, _⟩ => by
  simp only [h, Option.some.injEq] at h1; subst h1
  unfold forkK kOf at h2; cases few <;> simp at h2
theorem fork_acc {st : List K} {text : List UInt8} {pc a b i N : Nat} {few : Bool} (h : st[pc]? = some (forkK few a b)) (hN : AccN st text N (pc, i)) : ∃ M, M < N ∧ (AccN st text M (a, i) ∨ AccN st text M (b, i)) := by
  cases N with
  | zero => exact hN.elim
  | succ N =>
    rcases hN with hN | ⟨d, hd, hN⟩
    · exact absurd hN (fork_no h)
    · rcases (fork_nexts h d).1 hd with rfl | rfl
      · exact ⟨N, by omega, .inl hN⟩
      · exact ⟨N, by omega, .inr hN⟩
theorem jump_nexts {st : List K} {text : List UInt8} {pc a i : Nat} (h : st[pc]? = some { kOf 5 with a := a }) (d : Nat × Nat) : d ∈ nexts st text (pc, i) ↔ d = (a, i) := by
  unfold nexts
  simp only [h, kOf]
  simp
theorem jump_acc {st : List K} {text : List UInt8} {pc a i N : Nat} (h : st[pc]? = some { kOf 5 with a := a }) (hN : AccN st text N (pc, i)) : ∃ M, M < N ∧ AccN st text M (a, i) := by
  cases N with
  | zero => exact hN.elim
  | succ N =>
    rcases hN with ⟨k', h1, h2, _⟩ | ⟨d, hd, hN⟩
    · simp only [h, Option.some.injEq] at h1; subst h1; simp [kOf] at h2
    · have := (jump_nexts h d).1 hd
      subst this
      exact ⟨N, by omega, hN⟩

/-- e, some times or not -/
theorem Sem.opts {text : List UInt8} {c : Nat → List K} {n : Nat} {R : Nat → Nat → Prop} (hc : Sem text c n R) (few : Bool) : ∀ k, ∀ A B N i E, E = A.length + k * (n + 1) → i ≤ text.length →
    (AccN (A ++ (Rx.opts c n few E k A.length ++ B)) text N (A.length, i) → ∃ x j M, x ≤ k ∧ iter R x i j ∧ M ≤ N ∧ j ≤ text.length ∧ AccN (A ++ (Rx.opts c n few E k A.length ++ B)) text M (E, j)) ∧
    (∀ x j, x ≤ k → iter R x i j → j ≤ text.length ∧ (Acc (A ++ (Rx.opts c n few E k A.length ++ B)) text (E, j) → Acc (A ++ (Rx.opts c n few E k A.length ++ B)) text (A.length, i)))
  | 0, A, B, N, i, E, hE, hi => by
    rw [Nat.zero_mul, Nat.add_zero] at hE
    subst hE
    refine ⟨fun h => ⟨0, i, N, Nat.le_refl _, rfl, Nat.le_refl _, hi, h⟩, fun x j hx h => ?_⟩
    have : x = 0 := by omega
    subst this
    have h : i = j := h
    subst h
    exact ⟨hi, fun h => h⟩
  | k + 1, A, B, N, i, E, hE, hi => by
    rw [Nat.succ_mul] at hE
    have e1 : A ++ (Rx.opts c n few E (k + 1) A.length ++ B) = (A ++ [forkK few (A.length + 1) E]) ++ (c (A ++ [forkK few (A.length + 1) E]).length ++ (Rx.opts c n few E k (A.length + 1 + n) ++ B)) := by
      rw [Rx.opts]
      simp only [List.append_assoc, List.cons_append, List.nil_append, List.length_append, List.length_cons, List.length_nil, Nat.zero_add]
    have l1 : (A ++ [forkK few (A.length + 1) E]).length = A.length + 1 := by simp
    have e2 : A ++ (Rx.opts c n few E (k + 1) A.length ++ B) = (A ++ forkK few (A.length + 1) E :: c (A.length + 1)) ++ (Rx.opts c n few E k (A ++ forkK few (A.length + 1) E :: c (A.length + 1)).length ++ B) := by
      rw [Rx.opts]
      simp only [List.append_assoc, List.cons_append, List.length_append, List.length_cons, hc.len]
      congr 5
      omega
    have l2 : (A ++ forkK few (A.length + 1) E :: c (A.length + 1)).length = A.length + 1 + n := by simp only [List.length_append, List.length_cons, hc.len]; omega
    have hat : (A ++ (Rx.opts c n few E (k + 1) A.length ++ B))[A.length]? = some (forkK few (A.length + 1) E) := by rw [Rx.opts]; exact at_app A _ _
    refine ⟨fun h => ?_, fun x j hx h => ?_⟩
    · obtain ⟨M, hM, h | h⟩ := fork_acc hat h
      · obtain ⟨m, M', h1, h2, h3, h4⟩ := hc.fwd' _ _ (by rw [e1, l1]) l1 hi h
        rw [e2, ← l2] at h4
        obtain ⟨x, j, M2, h5, h6, h7, h8, h9⟩ := (hc.opts few k _ B M' m E (by rw [l2]; omega) h3).1 h4
        rw [e2]
        exact ⟨x + 1, j, M2, by omega, ⟨m, h1, h6⟩, by omega, h8, h9⟩
      · exact ⟨0, i, M, by omega, rfl, by omega, hi, h⟩
    · cases x with
      | zero =>
        have h : i = j := h
        subst h
        exact ⟨hi, fun ha => ha.step ((fork_nexts hat _).2 (.inr rfl))⟩
      | succ x =>
        obtain ⟨m, h1, h2⟩ := h
        obtain ⟨hm, k1⟩ := hc.bwd' (st := A ++ (Rx.opts c n few E (k + 1) A.length ++ B)) (A ++ [forkK few (A.length + 1) E]) (Rx.opts c n few E k (A.length + 1 + n) ++ B) (by rw [e1, l1]) l1 hi h1
        obtain ⟨hj, k2⟩ := (hc.opts few k (A ++ forkK few (A.length + 1) E :: c (A.length + 1)) B 0 m E (by rw [l2]; omega) hm).2 x j (by omega) h2
        refine ⟨hj, fun ha => ?_⟩
        rw [← e2, l2] at k2
        exact (k1 (k2 ha)).step ((fork_nexts hat _).2 (.inl rfl))
theorem Sem.optsS {text : List UInt8} {c : Nat → List K} {n : Nat} {R : Nat → Nat → Prop} (hc : Sem text c n R) (few : Bool) (k : Nat) :
    Sem text (fun p => Rx.opts c n few (p + k * (n + 1)) k p) (k * (n + 1)) (fun i j => ∃ x, x ≤ k ∧ iter R x i j) := by
  refine ⟨fun p => opts_len hc.len few _ k p, fun A B N i hi h => ?_, fun A B i j hi ⟨x, hx, h⟩ => ?_⟩
  · obtain ⟨x, j, M, h1, h2, h3, h4, h5⟩ := (hc.opts few k A B N i _ rfl hi).1 h
    exact ⟨j, M, ⟨x, h1, h2⟩, h3, h4, h5⟩
  · exact (hc.opts few k A B 0 i _ rfl hi).2 x j hx h
/-- e, so often as one likes -/
theorem Sem.star {text : List UInt8} {c : Nat → List K} {n : Nat} {R : Nat → Nat → Prop} (hc : Sem text c n R) (few : Bool) :
    Sem text (fun p => forkK few (p + 1) (p + n + 2) :: (c (p + 1) ++ [{ kOf 5 with a := p }])) (n + 2) (fun i j => ∃ x, iter R x i j) := by
  have e1 : ∀ A B : List K, A ++ ((forkK few (A.length + 1) (A.length + n + 2) :: (c (A.length + 1) ++ [{ kOf 5 with a := A.length }])) ++ B) =
      (A ++ [forkK few (A.length + 1) (A.length + n + 2)]) ++ (c (A ++ [forkK few (A.length + 1) (A.length + n + 2)]).length ++ ({ kOf 5 with a := A.length } :: B)) := fun A B => by
    simp only [List.append_assoc, List.cons_append, List.nil_append, List.length_append, List.length_cons, List.length_nil, Nat.zero_add]
  have l1 : ∀ A : List K, (A ++ [forkK few (A.length + 1) (A.length + n + 2)]).length = A.length + 1 := fun A => by simp
  have hat : ∀ A B : List K, (A ++ ((forkK few (A.length + 1) (A.length + n + 2) :: (c (A.length + 1) ++ [{ kOf 5 with a := A.length }])) ++ B))[A.length]? = some (forkK few (A.length + 1) (A.length + n + 2)) := fun A B => at_app A _ _
  have hjt : ∀ A B : List K, (A ++ ((forkK few (A.length + 1) (A.length + n + 2) :: (c (A.length + 1) ++ [{ kOf 5 with a := A.length }])) ++ B))[A.length + 1 + n]? = some { kOf 5 with a := A.length } := fun A B => by
    have := at_app (A ++ forkK few (A.length + 1) (A.length + n + 2) :: c (A.length + 1)) { kOf 5 with a := A.length } B
    rw [show (A ++ forkK few (A.length + 1) (A.length + n + 2) :: c (A.length + 1)).length = A.length + 1 + n by simp only [List.length_append, List.length_cons, hc.len]; omega] at this
    simpa only [List.append_assoc, List.cons_append, List.nil_append] using this
  refine ⟨fun p => by simp only [List.length_cons, List.length_append, hc.len, List.length_nil], fun A B N => ?_, fun A B i j hi hxx => ?_⟩
  · induction N using Nat.strongRecOn with
    | _ N ih =>
      intro i hi h
      obtain ⟨M, hM, h | h⟩ := fork_acc (hat A B) h
      · obtain ⟨m, M', h1, h2, h3, h4⟩ := hc.fwd' _ _ (by rw [e1, l1]) (l1 A) hi h
        obtain ⟨M2, hM2, h5⟩ := jump_acc (hjt A B) h4
        obtain ⟨j, M3, ⟨x, h6⟩, h7, h8, h9⟩ := ih M2 (by omega) m h3 h5
        exact ⟨j, M3, ⟨x + 1, m, h1, h6⟩, by omega, h8, h9⟩
      · exact ⟨i, M, ⟨0, rfl⟩, by omega, hi, h⟩
  · obtain ⟨x, h⟩ := hxx
    induction x generalizing i with
    | zero =>
      have h : i = j := h
      subst h
      exact ⟨hi, fun ha => ha.step ((fork_nexts (hat A B) _).2 (.inr rfl))⟩
    | succ x ih =>
      obtain ⟨m, h1, h2⟩ := h
      obtain ⟨hm, k1⟩ := hc.bwd' (st := A ++ ((forkK few (A.length + 1) (A.length + n + 2) :: (c (A.length + 1) ++ [{ kOf 5 with a := A.length }])) ++ B)) (A ++ [forkK few (A.length + 1) (A.length + n + 2)]) ({ kOf 5 with a := A.length } :: B) (by rw [e1, l1]) (l1 A) hi h1
      obtain ⟨hj, k2⟩ := ih m hm h2
      refine ⟨hj, fun ha => ?_⟩
      exact (k1 ((k2 ha).step ((jump_nexts (hjt A B) _).2 rfl))).step ((fork_nexts (hat A B) _).2 (.inl rfl))
theorem Sem.plus {text : List UInt8} {c : Nat → List K} {n : Nat} {R : Nat → Nat → Prop} (hc : Sem text c n R) (few : Bool) :
    Sem text (fun p => c p ++ [forkK few p (p + n + 1)]) (n + 1) (fun i j => ∃ x, 1 ≤ x ∧ iter R x i j) := by
  have e1 : ∀ A B : List K, A ++ ((c A.length ++ [forkK few A.length (A.length + n + 1)]) ++ B) = A ++ (c A.length ++ (forkK few A.length (A.length + n + 1) :: B)) := fun A B => by
    simp only [List.append_assoc, List.cons_append, List.nil_append]
  have hat : ∀ A B : List K, (A ++ ((c A.length ++ [forkK few A.length (A.length + n + 1)]) ++ B))[A.length + n]? = some (forkK few A.length (A.length + n + 1)) := fun A B => by
    have := at_app (A ++ c A.length) (forkK few A.length (A.length + n + 1)) B
    rw [List.length_append, hc.len] at this
    simpa only [List.append_assoc, List.cons_append, List.nil_append] using this
  refine ⟨fun p => by simp only [List.length_append, hc.len, List.length_cons, List.length_nil], fun A B N => ?_, fun A B i j hi hxx => ?_⟩
  · induction N using Nat.strongRecOn with
    | _ N ih =>
      intro i hi h
      rw [e1] at h
      obtain ⟨m, M', h1, h2, h3, h4⟩ := hc.fwd _ _ _ _ hi h
      rw [← e1] at h4
      obtain ⟨M, hM, h | h⟩ := fork_acc (hat A B) h4
      · obtain ⟨j, M3, ⟨x, hx, h6⟩, h7, h8, h9⟩ := ih M (by omega) m h3 h
        exact ⟨j, M3, ⟨x + 1, by omega, m, h1, h6⟩, by omega, h8, h9⟩
      · exact ⟨m, M, ⟨1, Nat.le_refl _, m, h1, rfl⟩, by omega, h3, h⟩
  · obtain ⟨x, hx, h⟩ := hxx
    obtain ⟨x, rfl⟩ : ∃ y, x = y + 1 := ⟨x - 1, by omega⟩
    clear hx
    induction x generalizing i with
    | zero =>
      obtain ⟨m, h1, h2⟩ := h
      have h2 : m = j := h2
      subst h2
      obtain ⟨hm, k1⟩ := hc.bwd A (forkK few A.length (A.length + n + 1) :: B) i m hi h1
      refine ⟨hm, fun ha => ?_⟩
      rw [← e1] at k1
      exact k1 (ha.step ((fork_nexts (hat A B) _).2 (.inr rfl)))
    | succ x ih =>
      obtain ⟨m, h1, h2⟩ := h
      obtain ⟨hm, k1⟩ := hc.bwd A (forkK few A.length (A.length + n + 1) :: B) i m hi h1
      obtain ⟨hj, k2⟩ := ih m hm h2
      refine ⟨hj, fun ha => ?_⟩
      rw [← e1] at k1
      exact k1 ((k2 ha).step ((fork_nexts (hat A B) _).2 (.inl rfl)))
theorem Sem.rep {text : List UInt8} {c : Nat → List K} {n : Nat} {R : Nat → Nat → Prop} (hc : Sem text c n R) (mn : Nat) (mx : Int) (few plus : Bool) :
    Sem text (repC c n mn mx few plus) (sizeR n mn mx plus) (fun i j => ∃ k, (if plus then 1 ≤ k else mn ≤ k ∧ (mx < 0 ∨ k ≤ mn + (mx.toNat - mn))) ∧ iter R k i j) := by
  cases plus
  · by_cases hx : mx < 0
    · refine ((hc.copies mn).comp (hc.star few)).congr ?_ ?_ fun i j => ?_
      · funext p; unfold repC; simp [hx]
      · unfold sizeR; simp [hx]
      · simp only [Bool.false_eq_true, if_false, hx, true_or, and_true]
        constructor
        · rintro ⟨m, h1, x, h2⟩
          exact ⟨mn + x, by omega, (iter_add R mn x i j).2 ⟨m, h1, h2⟩⟩
        · rintro ⟨k, hk, h⟩
          rw [show k = mn + (k - mn) by omega] at h
          obtain ⟨m, h1, h2⟩ := (iter_add R mn _ i j).1 h
          exact ⟨m, h1, _, h2⟩
    · refine ((hc.copies mn).comp (hc.optsS few (mx.toNat - mn))).congr ?_ ?_ fun i j => ?_
      · funext p; unfold repC; simp [hx]
      · unfold sizeR; simp [hx]
      · simp only [Bool.false_eq_true, if_false, hx, false_or]
        constructor
        · rintro ⟨m, h1, x, h3, h2⟩
          exact ⟨mn + x, by omega, (iter_add R mn x i j).2 ⟨m, h1, h2⟩⟩
        · rintro ⟨k, ⟨hk, hk2⟩, h⟩
          rw [show k = mn + (k - mn) by omega] at h
          obtain ⟨m, h1, h2⟩ := (iter_add R mn _ i j).1 h
          exact ⟨m, h1, _, by omega, h2⟩
  · exact (hc.plus few).congr (by funext p; unfold repC; simp) (by unfold sizeR; simp) (fun i j => by simp)
theorem Sem.alt {text : List UInt8} {c d : Nat → List K} {n n' : Nat} {R R' : Nat → Nat → Prop} (hc : Sem text c n R) (hd : Sem text d n' R') :
    Sem text (fun p => forkK false (p + 1) (p + 2 + n) :: (c (p + 1) ++ ({ kOf 5 with a := p + 2 + n + n' } :: d (p + 2 + n)))) (n + n' + 2) (fun i j => R i j ∨ R' i j) := by
  generalize hF : (fun p => forkK false (p + 1) (p + 2 + n)) = F
  generalize hJ : (fun p => ({ kOf 5 with a := p + 2 + n + n' } : K)) = J
  have hF' : ∀ p, F p = forkK false (p + 1) (p + 2 + n) := fun p => by rw [← hF]
  have hJ' : ∀ p, J p = { kOf 5 with a := p + 2 + n + n' } := fun p => by rw [← hJ]
  suffices hs : Sem text (fun p => F p :: (c (p + 1) ++ (J p :: d (p + 2 + n)))) (n + n' + 2) (fun i j => R i j ∨ R' i j) by
    refine hs.congr ?_ rfl (fun _ _ => Iff.rfl)
    funext p; rw [hF', hJ']
  have e1 : ∀ A B : List K, A ++ ((F A.length :: (c (A.length + 1) ++ (J A.length :: d (A.length + 2 + n)))) ++ B) = (A ++ [F A.length]) ++ (c (A ++ [F A.length]).length ++ (J A.length :: (d (A.length + 2 + n) ++ B))) := fun A B => by
    simp only [List.append_assoc, List.cons_append, List.nil_append, List.length_append, List.length_cons, List.length_nil, Nat.zero_add]
  have l1 : ∀ A : List K, (A ++ [F A.length]).length = A.length + 1 := fun A => by simp
  have l2 : ∀ A : List K, (A ++ (F A.length :: (c (A.length + 1) ++ [J A.length]))).length = A.length + 2 + n := fun A => by
    simp only [List.length_append, List.length_cons, List.length_nil, hc.len]; omega
  have e2 : ∀ A B : List K, A ++ ((F A.length :: (c (A.length + 1) ++ (J A.length :: d (A.length + 2 + n)))) ++ B) = (A ++ (F A.length :: (c (A.length + 1) ++ [J A.length]))) ++ (d (A ++ (F A.length :: (c (A.length + 1) ++ [J A.length]))).length ++ B) := fun A B => by
    rw [l2]
    simp only [List.append_assoc, List.cons_append, List.nil_append]
  have hat : ∀ A B : List K, (A ++ ((F A.length :: (c (A.length + 1) ++ (J A.length :: d (A.length + 2 + n)))) ++ B))[A.length]? = some (forkK false (A.length + 1) (A.length + 2 + n)) := fun A B => by rw [← hF']; exact at_app A _ _
  have hjt : ∀ A B : List K, (A ++ ((F A.length :: (c (A.length + 1) ++ (J A.length :: d (A.length + 2 + n)))) ++ B))[A.length + 1 + n]? = some { kOf 5 with a := A.length + 2 + n + n' } := fun A B => by
    have := at_app (A ++ F A.length :: c (A.length + 1)) (J A.length) (d (A.length + 2 + n) ++ B)
    rw [show (A ++ F A.length :: c (A.length + 1)).length = A.length + 1 + n by simp only [List.length_append, List.length_cons, hc.len]; omega] at this
    rw [← hJ']
    simpa only [List.append_assoc, List.cons_append, List.nil_append] using this
  refine ⟨fun p => by simp only [List.length_cons, List.length_append, hc.len, hd.len]; omega, fun A B N i hi h => ?_, fun A B i j hi h => ?_⟩
  · obtain ⟨M, hM, h | h⟩ := fork_acc (hat A B) h
    · obtain ⟨m, M', h1, h2, h3, h4⟩ := hc.fwd' _ _ (by rw [e1, l1]) (l1 A) hi h
      obtain ⟨M2, hM2, h5⟩ := jump_acc (hjt A B) h4
      exact ⟨m, M2, .inl h1, by omega, h3, by rw [show A.length + (n + n' + 2) = A.length + 2 + n + n' by omega]; exact h5⟩
    · obtain ⟨m, M', h1, h2, h3, h4⟩ := hd.fwd' _ _ (by rw [e2, l2]) (l2 A) hi h
      exact ⟨m, M', .inr h1, by omega, h3, by rw [show A.length + (n + n' + 2) = A.length + 2 + n + n' by omega]; exact h4⟩
  · rcases h with h | h
    · obtain ⟨hm, k1⟩ := hc.bwd' (st := A ++ ((F A.length :: (c (A.length + 1) ++ (J A.length :: d (A.length + 2 + n)))) ++ B)) (A ++ [F A.length]) (J A.length :: (d (A.length + 2 + n) ++ B)) (by rw [e1, l1]) (l1 A) hi h
      refine ⟨hm, fun ha => ?_⟩
      refine (k1 (ha.step ((jump_nexts (hjt A B) _).2 ?_))).step ((fork_nexts (hat A B) _).2 (.inl rfl))
      rw [show A.length + (n + n' + 2) = A.length + 2 + n + n' by omega]
    · obtain ⟨hm, k1⟩ := hd.bwd' (st := A ++ ((F A.length :: (c (A.length + 1) ++ (J A.length :: d (A.length + 2 + n)))) ++ B)) (A ++ (F A.length :: (c (A.length + 1) ++ [J A.length]))) B (by rw [e2, l2]) (l2 A) hi h
      refine ⟨hm, fun ha => ?_⟩
      exact (k1 (by rw [show A.length + 2 + n + n' = A.length + (n + n' + 2) by omega]; exact ha)).step ((fork_nexts (hat A B) _).2 (.inr rfl))

end Go.Rx
end
section
namespace Go.Rx

mutual
def numOk (g : Nat) : T → Prop
  | .emp => True
  | .set _ _ => True
  | .bos => True
  | .eos => True
  | .grp n t => n ≤ g ∧ numOk g t
  | .seq l => numOkL g l
  | .alt a b => numOk g a ∧ numOk g b
  | .rep _ _ _ _ t => numOk g t
def numOkL (g : Nat) : List T → Prop
  | [] => True
  | t :: l => numOk g t ∧ numOkL g l
end
theorem numOk_mono {g g' : Nat} (h : g ≤ g') (t : T) : numOk g t → numOk g' t := by
  refine T.rec (motive_1 := fun t => numOk g t → numOk g' t) (motive_2 := fun l => numOkL g l → numOkL g' l) ?_ ?_ ?_ ?_ ?_ ?_ ?_ ?_ ?_ ?_ t
  · intro _; simp [numOk]
  · intro l neg _; simp [numOk]
  · intro _; simp [numOk]
  · intro _; simp [numOk]
  · intro n t ih; simp only [numOk]; exact fun k => ⟨by omega, ih k.2⟩
  · intro l ih; simp only [numOk]; exact ih
  · intro a b iha ihb; simp only [numOk]; exact fun k => ⟨iha k.1, ihb k.2⟩
  · intro mn mx few plus t ih; simp only [numOk]; exact ih
  · intro _; simp [numOkL]
  · intro t l iht ihl; simp only [numOkL]; exact fun k => ⟨iht k.1, ihl k.2⟩
theorem numOkL_snoc {g : Nat} : ∀ (l : List T) (t : T), numOkL g l → numOk g t → numOkL g (l ++ [t])
  | [], t, _, h => by simp [numOkL, h]
  | x :: l, t, hl, h => by
    simp only [numOkL] at hl
    simp only [List.cons_append, numOkL]
    exact ⟨hl.1, numOkL_snoc l t hl.2 h⟩
theorem numOkL_mono {g g' : Nat} (h : g ≤ g') : ∀ l : List T, numOkL g l → numOkL g' l
  | [], _ => by simp [numOkL]
  | x :: l, k => by simp only [numOkL] at k ⊢; exact ⟨numOk_mono h x k.1, numOkL_mono h l k.2⟩

def MOk (g : Nat) : M → Prop
  | .altL t => numOk g t
  | .seqL acc => numOkL g acc
  | _ => True
/-- the groups of what is read have numbers, no more than were told -/
theorem parse_num {s : List UInt8} : ∀ (n : Nat) (m : M) (i g : Nat) (t : T) (a g' : Nat), MOk g m → parse s n m i g = .ok (t, a, g') → i ≤ a ∧ g ≤ g' ∧ g' + i ≤ g + a ∧ numOk g' t ∧ (i ≤ s.length → a ≤ s.length)
  | 0, m, i, g, t, a, g', _, h => by cases m <;> simp [parse] at h
  | n + 1, .alt, i, g, t, a, g', hm, h => by
    rw [parse] at h
    rcases hp : parse s n .seq i g with e | ⟨t1, a1, g1⟩
    · rw [hp] at h; simp at h
    · rw [hp] at h
      obtain ⟨h1, h2, h3, h4, h5⟩ := parse_num n .seq i g t1 a1 g1 trivial hp
      obtain ⟨k1, k2, k3, k4, k5⟩ := parse_num n (.altL t1) a1 g1 t a g' h4 h
      exact ⟨by omega, by omega, by omega, k4, fun _ => by omega⟩
  | n + 1, .altL t0, i, g, t, a, g', hm, h => by
    rw [parse_altL] at h
    split at h
    · rename_i hb
      have hb' := isB_lt hb
      rcases hp : parse s n .seq (i + 1) g with e | ⟨t1, a1, g1⟩
      · rw [hp] at h; simp at h
      · rw [hp] at h
        obtain ⟨h1, h2, h3, h4, h5⟩ := parse_num n .seq (i + 1) g t1 a1 g1 trivial hp
        obtain ⟨k1, k2, k3, k4, k5⟩ := parse_num n (.altL (.alt t0 t1)) a1 g1 t a g' (by simp only [MOk, numOk]; exact ⟨numOk_mono h2 _ hm, h4⟩) h
        exact ⟨by omega, by omega, by omega, k4, fun _ => by omega⟩
    · simp only [Except.ok.injEq, Prod.mk.injEq] at h
      obtain ⟨rfl, rfl, rfl⟩ := h
      exact ⟨Nat.le_refl _, Nat.le_refl _, Nat.le_refl _, hm, id⟩
  | n + 1, .seq, i, g, t, a, g', hm, h => by
    rw [parse] at h
    exact parse_num n (.seqL []) i g t a g' (by simp [MOk, numOkL]) h
  | n + 1, .seqL acc, i, g, t, a, g', hm, h => by
    rw [parse_seqL] at h
    split at h
    · rcases hp : parse s n .rep i g with e | ⟨t1, a1, g1⟩
      · rw [hp] at h; simp at h
      · rw [hp] at h
        obtain ⟨h1, h2, h3, h4, h5⟩ := parse_num n .rep i g t1 a1 g1 trivial hp
        obtain ⟨k1, k2, k3, k4, k5⟩ := parse_num n (.seqL (acc ++ [t1])) a1 g1 t a g' (numOkL_snoc _ _ (numOkL_mono h2 _ hm) h4) h
        exact ⟨by omega, by omega, by omega, k4, fun _ => by omega⟩
    · simp only [Except.ok.injEq, Prod.mk.injEq] at h
      obtain ⟨rfl, rfl, rfl⟩ := h
      refine ⟨Nat.le_refl _, Nat.le_refl _, Nat.le_refl _, ?_, id⟩
      split
      · simp [numOk]
      · simp only [numOk]; exact hm
  | n + 1, .rep, i, g, t, a, g', hm, h => by
    rw [parse_rep] at h
    rcases hp : parse s n .thing i g with e | ⟨t1, a1, g1⟩
    · rw [hp] at h; simp at h
    · rw [hp] at h
      obtain ⟨h1, h2, h3, h4, h5⟩ := parse_num n .thing i g t1 a1 g1 trivial hp
      simp only at h
      split at h
      · simp only [Except.ok.injEq, Prod.mk.injEq] at h
        obtain ⟨rfl, rfl, rfl⟩ := h
        exact ⟨h1, h2, h3, h4, h5⟩
      · rcases hr : rept s a1 with e | _ | ⟨mn, mx, plus, b⟩
        · rw [hr] at h; simp at h
        · rw [hr] at h
          simp only [Except.ok.injEq, Prod.mk.injEq] at h
          obtain ⟨rfl, rfl, rfl⟩ := h
          exact ⟨h1, h2, h3, h4, h5⟩
        · rw [hr] at h
          have hb := rept_adv hr
          simp only at h
          split at h
          · rename_i h63
            have h63' := isB_lt h63
            simp only [Except.ok.injEq, Prod.mk.injEq] at h
            obtain ⟨rfl, rfl, rfl⟩ := h
            exact ⟨by omega, h2, by omega, by simp only [numOk]; exact h4, fun _ => by omega⟩
          · simp only [Except.ok.injEq, Prod.mk.injEq] at h
            obtain ⟨rfl, rfl, rfl⟩ := h
            exact ⟨by omega, h2, by omega, by simp only [numOk]; exact h4, fun _ => by omega⟩
  | n + 1, .thing, i, g, t, a, g', hm, h => by
    rw [parse_thing] at h
    split at h
    · rename_i hi
      have hd := dec_pos s i
      have hd2 := dec_le hi
      split at h
      · simp only [Except.ok.injEq, Prod.mk.injEq] at h
        obtain ⟨rfl, rfl, rfl⟩ := h
        exact ⟨by omega, Nat.le_refl _, by omega, by simp [numOk], fun _ => by omega⟩
      · split at h
        · simp only [Except.ok.injEq, Prod.mk.injEq] at h
          obtain ⟨rfl, rfl, rfl⟩ := h
          exact ⟨by omega, Nat.le_refl _, by omega, by simp [numOk], fun _ => by omega⟩
        · split at h
          · simp only [Except.ok.injEq, Prod.mk.injEq] at h
            obtain ⟨rfl, rfl, rfl⟩ := h
            exact ⟨by omega, Nat.le_refl _, by omega, by simp [numOk], fun _ => by omega⟩
          · split at h
            · rcases hc : cls s (i + (dec s i).2) with e | ⟨t1, b⟩
              · rw [hc] at h; simp at h
              · rw [hc] at h
                have hb := cls_adv hc
                simp only [Except.ok.injEq, Prod.mk.injEq] at h
                obtain ⟨rfl, rfl, rfl⟩ := h
                refine ⟨by omega, Nat.le_refl _, by omega, ?_, fun _ => by omega⟩
                unfold cls at hc
                simp only at hc
                split at hc
                · simp at hc
                · simp only [Except.ok.injEq, Prod.mk.injEq] at hc
                  rw [← hc.1]; simp [numOk]
            · split at h
              · unfold brk at h
                split at h
                · split at h
                  · rcases hp : parse s n .alt (i + (dec s i).2 + 2) g with e | ⟨t1, a1, g1⟩
                    · rw [hp] at h; simp at h
                    · rw [hp] at h
                      simp only at h
                      split at h
                      · obtain ⟨h1, h2, h3, h4, h5⟩ := parse_num n .alt _ g t1 a1 g1 trivial hp
                        simp only [Except.ok.injEq, Prod.mk.injEq] at h
                        obtain ⟨rfl, rfl, rfl⟩ := h
                        exact ⟨by omega, h2, by omega, by simp only [numOk]; exact ⟨Nat.zero_le _, h4⟩, fun _ => by have := isB_lt ‹_›; omega⟩
                      · simp at h
                  · simp at h
                · rcases hp : parse s n .alt (i + (dec s i).2) (g + 1) with e | ⟨t1, a1, g1⟩
                  · rw [hp] at h; simp at h
                  · rw [hp] at h
                    simp only at h
                    split at h
                    · obtain ⟨h1, h2, h3, h4, h5⟩ := parse_num n .alt _ (g + 1) t1 a1 g1 trivial hp
                      simp only [Except.ok.injEq, Prod.mk.injEq] at h
                      obtain ⟨rfl, rfl, rfl⟩ := h
                      exact ⟨by omega, by omega, by omega, by simp only [numOk]; exact ⟨by omega, h4⟩, fun _ => by have := isB_lt ‹_›; omega⟩
                    · simp at h
              · split at h
                · rcases he : escape s (i + (dec s i).2) with e | ⟨⟨l, neg⟩, b⟩
                  · rw [he] at h; simp at h
                  · rw [he] at h
                    have hb := escape_adv he
                    simp only [Except.ok.injEq, Prod.mk.injEq] at h
                    obtain ⟨rfl, rfl, rfl⟩ := h
                    exact ⟨by omega, Nat.le_refl _, by omega, by simp [numOk], fun _ => by omega⟩
                · split at h
                  · simp at h
                  · simp only [Except.ok.injEq, Prod.mk.injEq] at h
                    obtain ⟨rfl, rfl, rfl⟩ := h
                    exact ⟨by omega, Nat.le_refl _, by omega, by simp [numOk], fun _ => by omega⟩
    · simp at h
theorem readP_num {s : List UInt8} {t : T} {g : Nat} (h : readP s = .ok (t, g)) : numOk g t ∧ g ≤ s.length := by
  unfold readP at h
  rcases hp : parse s (6 * s.length + 5) .alt 0 0 with e | ⟨t1, a1, g1⟩
  · rw [hp] at h; simp at h
  · rw [hp] at h
    simp only at h
    obtain ⟨h1, h2, h3, h4, h5⟩ := parse_num _ .alt 0 0 t1 a1 g1 trivial hp
    split at h
    · simp at h
    · simp only [Except.ok.injEq, Prod.mk.injEq] at h
      obtain ⟨rfl, rfl⟩ := h
      exact ⟨h4, by have := h5 (Nat.zero_le _); omega⟩

def Pk (g E : Nat) (k : K) : Prop := k.kind ≤ 5 ∧ k.a ≤ E ∧ k.b ≤ E ∧ k.slot < 2 * g + 2
def Wfc (g : Nat) (c : Nat → List K) (n : Nat) : Prop := (∀ p, (c p).length = n) ∧ ∀ p k, k ∈ c p → Pk g (p + n) k
theorem Pk.mono {g E E' : Nat} {k : K} (h : Pk g E k) (hE : E ≤ E') : Pk g E' k := ⟨h.1, by have := h.2.1; omega, by have := h.2.2.1; omega, h.2.2.2⟩
theorem Wfc.comp {g : Nat} {c d : Nat → List K} {n n' : Nat} (hc : Wfc g c n) (hd : Wfc g d n') : Wfc g (fun p => c p ++ d (p + n)) (n + n') := by
  refine ⟨fun p => by rw [List.length_append, hc.1, hd.1], fun p k hk => ?_⟩
  rw [List.mem_append] at hk
  rcases hk with hk | hk
  · exact (hc.2 p k hk).mono (by omega)
  · exact (hd.2 _ k hk).mono (by omega)
theorem Wfc.one {g : Nat} (k : K) (h : ∀ p, Pk g (p + 1) k) : Wfc g (fun _ => [k]) 1 := ⟨fun _ => rfl, fun p k' hk => by simp only [List.mem_cons, List.not_mem_nil, or_false] at hk; subst hk; exact h p⟩
theorem Pk.fork {g E a b : Nat} {few : Bool} (ha : a ≤ E) (hb : b ≤ E) : Pk g E (forkK few a b) := by
  unfold forkK kOf Pk
  cases few <;> simp <;> omega
theorem Wfc.copies {g : Nat} {c : Nat → List K} {n : Nat} (hc : Wfc g c n) : ∀ k, Wfc g (copies c n k) (k * n)
  | 0 => ⟨fun _ => by simp [Rx.copies], fun _ _ h => by simp [Rx.copies] at h⟩
  | k + 1 => by
    have h := hc.comp (hc.copies k)
    rw [show n + k * n = (k + 1) * n by rw [Nat.succ_mul]; omega] at h
    exact h
theorem opts_wf {g : Nat} {c : Nat → List K} {n : Nat} (hc : Wfc g c n) (few : Bool) (E : Nat) : ∀ k p, p + k * (n + 1) ≤ E → ∀ x ∈ opts c n few E k p, Pk g E x
  | 0, p, _, x, h => by simp [opts] at h
  | k + 1, p, hE, x, h => by
    rw [Nat.succ_mul] at hE
    rw [opts, List.mem_cons, List.mem_append] at h
    rcases h with rfl | h | h
    · exact Pk.fork (by omega) (Nat.le_refl _)
    · exact (hc.2 _ x h).mono (by omega)
    · exact opts_wf hc few E k _ (by omega) x h
theorem Wfc.rep {g : Nat} {c : Nat → List K} {n : Nat} (hc : Wfc g c n) (mn : Nat) (mx : Int) (few plus : Bool) : Wfc g (repC c n mn mx few plus) (sizeR n mn mx plus) := by
  have hlen : ∀ p, (repC c n mn mx few plus p).length = sizeR n mn mx plus := fun p => by
    unfold repC sizeR
    split
    · simp only [List.length_append, hc.1, List.length_cons, List.length_nil]
    · rw [List.length_append, copies_len hc.1]
      congr 1
      split
      · simp only [List.length_cons, List.length_append, hc.1, List.length_nil]
      · rw [opts_len hc.1]
  refine ⟨hlen, fun p k hk => ?_⟩
  unfold repC at hk
  unfold sizeR
  split at hk
  · rename_i hp
    rw [if_pos hp]
    rw [List.mem_append] at hk
    rcases hk with hk | hk
    · exact (hc.2 p k hk).mono (by omega)
    · simp only [List.mem_cons, List.not_mem_nil, or_false] at hk
      subst hk
      exact Pk.fork (by omega) (by omega)
  · rename_i hp
    rw [if_neg hp]
    rw [List.mem_append] at hk
    rcases hk with hk | hk
    · exact ((hc.copies mn).2 p k hk).mono (by omega)
    · split at hk
      · rename_i hx
        rw [if_pos hx]
        simp only [List.mem_cons, List.mem_append, List.not_mem_nil, or_false] at hk
        rcases hk with rfl | hk | rfl
        · exact Pk.fork (by omega) (by omega)
        · exact (hc.2 _ k hk).mono (by omega)
        · (simp [Pk, kOf] <;> omega)
      · rename_i hx
        rw [if_neg hx]
        exact (opts_wf hc few _ _ _ (Nat.le_refl _) k hk).mono (by omega)
theorem wfc_all {g : Nat} (t : T) : numOk g t → Wfc g (codeT t) (sizeT t) := by
  refine T.rec (motive_1 := fun t => numOk g t → Wfc g (codeT t) (sizeT t)) (motive_2 := fun l => numOkL g l → Wfc g (codeL l) (sizeL l)) ?_ ?_ ?_ ?_ ?_ ?_ ?_ ?_ ?_ ?_ t
  · intro _; exact ⟨fun p => by simp [codeT, sizeT], fun p k h => by simp [codeT] at h⟩
  · intro l neg _
    refine ⟨codeT_len _, fun p k h => ?_⟩
    simp only [codeT, List.mem_cons, List.not_mem_nil, or_false] at h
    subst h; simp [Pk, kOf]
  · intro _
    refine ⟨codeT_len _, fun p k h => ?_⟩
    simp only [codeT, List.mem_cons, List.not_mem_nil, or_false] at h
    subst h; simp [Pk, kOf]
  · intro _
    refine ⟨codeT_len _, fun p k h => ?_⟩
    simp only [codeT, List.mem_cons, List.not_mem_nil, or_false] at h
    subst h; simp [Pk, kOf]
  · intro n t ih hn
    simp only [numOk] at hn
    have hw := ih hn.2
    refine ⟨codeT_len _, fun p k h => ?_⟩
    simp only [codeT] at h
    simp only [sizeT]
    split at h
    · rename_i h0
      rw [if_pos h0]
      exact hw.2 p k h
    · rename_i h0
      rw [if_neg h0]
      simp only [List.mem_cons, List.mem_append, List.not_mem_nil, or_false] at h
      rcases h with rfl | h | rfl
      · (simp [Pk, kOf] <;> omega)
      · exact (hw.2 _ k h).mono (by omega)
      · (simp [Pk, kOf] <;> omega)
  · intro l ih hn
    simp only [numOk] at hn
    have hw := ih hn
    refine ⟨codeT_len _, fun p k h => ?_⟩
    simp only [codeT] at h
    simp only [sizeT]
    exact hw.2 p k h
  · intro a b iha ihb hn
    simp only [numOk] at hn
    have ha := iha hn.1
    have hb := ihb hn.2
    refine ⟨codeT_len _, fun p k h => ?_⟩
    simp only [codeT, List.mem_cons, List.mem_append] at h
    simp only [sizeT]
    rcases h with rfl | h | rfl | h
    · exact Pk.fork (by omega) (by omega)
    · exact (ha.2 _ k h).mono (by omega)
    · (simp [Pk, kOf] <;> omega)
    · exact (hb.2 _ k h).mono (by omega)
  · intro mn mx few plus t ih hn
    simp only [numOk] at hn
    have hw := (ih hn).rep mn mx few plus
    refine ⟨codeT_len _, fun p k h => ?_⟩
    simp only [codeT] at h
    simp only [sizeT]
    exact hw.2 p k h
  · intro _; exact ⟨fun p => by simp [codeL, sizeL], fun p k h => by simp [codeL] at h⟩
  · intro t l iht ihl hn
    simp only [numOkL] at hn
    have hw := (iht hn.1).comp (ihl hn.2)
    exact ⟨fun p => by simp only [codeL, sizeL]; exact hw.1 p, fun p k h => by simp only [codeL] at h; simp only [sizeL]; exact hw.2 p k h⟩
theorem progT_len (t : T) : (progT t).length = sizeT t + 1 := by unfold progT; rw [List.length_append, codeT_len]; rfl
theorem wf_prog {g : Nat} {t : T} (h : numOk g t) : WfP (progT t) g := by
  have hw := wfc_all t h
  have hl := progT_len t
  have hk : ∀ i k, (progT t)[i]? = some k → (i < sizeT t ∧ Pk g (sizeT t) k) ∨ (i = sizeT t ∧ k = kOf 6) := fun i k hi => by
    unfold progT at hi
    by_cases hc : i < sizeT t
    · rw [List.getElem?_append_left (by rw [codeT_len]; exact hc)] at hi
      have := hw.2 0 k (List.mem_of_getElem? hi)
      rw [Nat.zero_add] at this
      exact .inl ⟨hc, this⟩
    · rw [List.getElem?_append_right (by rw [codeT_len]; omega), codeT_len] at hi
      have h1 := (List.getElem?_eq_some_iff.1 hi).1
      simp at h1
      have : i = sizeT t := by omega
      subst this
      simp at hi
      exact .inr ⟨rfl, hi.symm⟩
  refine ⟨by omega, fun i k hi => ?_, fun i k hi h => ?_, fun i k hi h => ?_, fun i k hi h => ?_, fun i k hi h => ?_⟩
  all_goals rcases hk i k hi with ⟨h1, h2⟩ | ⟨h1, rfl⟩
  · have := h2.1; omega
  · simp [kOf]
  · omega
  · simp [kOf] at h
  · have := h2.2.1; omega
  · simp [kOf] at h
  · have := h2.2.2.1; omega
  · simp [kOf] at h
  · exact h2.2.2.2
  · simp [kOf] at h
end Go.Rx
end
section
open Go Go.Vg Go.RowKit Go.Proofs Go.Proofs.YtbpkhgehchelhaaDoor
namespace Go.Proofs.YtbpkhgehchelhaaDoor

theorem make_all (t : Rx.T) : MakeC t := by
  refine Rx.T.rec (motive_1 := fun t => MakeC t) (motive_2 := fun l => ∀ t ∈ l, MakeC t) ?_ ?_ ?_ ?_ ?_ ?_ ?_ ?_ ?_ ?_ t
  · exact make_ok _ (fun t' h => by simp [kidsT] at h) (fun _ _ _ _ _ h => by cases h)
  · intro l neg; exact make_ok _ (fun t' h => by simp [kidsT] at h) (fun _ _ _ _ _ h => by cases h)
  · exact make_ok _ (fun t' h => by simp [kidsT] at h) (fun _ _ _ _ _ h => by cases h)
  · exact make_ok _ (fun t' h => by simp [kidsT] at h) (fun _ _ _ _ _ h => by cases h)
  · intro n t ih; exact make_ok _ (fun t' h => by simp [kidsT] at h; subst h; exact ih) (fun _ _ _ _ _ h => by cases h)
  · intro l ih; exact make_ok _ (fun t' h => ih t' (by simpa [kidsT] using h)) (fun _ _ _ _ _ h => by cases h)
  · intro a b iha ihb; exact make_ok _ (fun t' h => by simp [kidsT] at h; rcases h with rfl | rfl; exact iha; exact ihb) (fun _ _ _ _ _ h => by cases h)
  · intro mn mx few plus t ih
    exact make_ok _ (fun t' h => by simp [kidsT] at h; subst h; exact ih) (fun mn' mx' few' plus' t' h => by cases h; exact repeat_ok t ih mn mx few plus)
  · intro t h; simp at h
  · intro t l iht ihl t' h
    rcases List.mem_cons.1 h with rfl | h
    · exact iht
    · exact ihl t' h

/-- a program in memory, its blocks of a set -/
structure PrS (w : World) (A : Nat → Prop) (pb : Nat) (st : List Rx.K) (g : Nat) : Prop where
  at_ : A pb
  ex : ∃ v ps, Bx w pb [v, .int .i64 g] ∧ Owns w 0 v 75 5 (List.zipWith stC st ps) ∧ (∀ b, v.ownBlock = some b → A b) ∧ ps.length = st.length ∧
    ∀ (i : Nat) (k : Rx.K) (p : Value), st[i]? = some k → ps[i]? = some p → Stp A w k p
  le : st.length ≤ 2000
theorem Stp.same {A A' : Nat → Prop} {w w' : World} {k : Rx.K} {p : Value} (h : Stp A w k p) (hs : ∀ b, b < w.heap.size → A b → w'.heap[b]? = w.heap[b]? ∧ A' b) : Stp A' w' k p := by
  rcases h with ⟨h1, h2⟩ | h
  · exact .inl ⟨h1, h2.same hs⟩
  · exact .inr h
theorem PrS.same {A A' : Nat → Prop} {w w' : World} {pb : Nat} {st : List Rx.K} {g : Nat} (h : PrS w A pb st g) (hs : ∀ b, b < w.heap.size → A b → w'.heap[b]? = w.heap[b]? ∧ A' b) : PrS w' A' pb st g := by
  obtain ⟨ha, ⟨v, ps, hbx, how, hA, hl, htr⟩, hle⟩ := h
  have h1 := hs pb hbx.lt ha
  exact ⟨h1.2, ⟨v, ps, hbx.same h1.1, how.same fun b hb e => (hs b hb (hA b e)).1, fun b e => (hs b (how.lt b e).2 (hA b e)).2, hl, fun i k p hi hp => (htr i k p hi hp).same hs⟩, hle⟩
theorem PrS.to {A : Nat → Prop} {w w' : World} {pb : Nat} {st : List Rx.K} {g : Nat} (h : PrS w A pb st g) (hx : Ext w w') : PrS w' A pb st g := h.same fun b hb hA => ⟨hx.block b hb, hA⟩

/-- what Compile gives -/
def CompS (s : List UInt8) (w : World) (r : Value) (w' : World) : Prop :=
  Ext w w' ∧ ((∃ st g pb, Rx.compileP s = .ok (st, g) ∧ PrS w' (fun b => w.heap.size ≤ b) pb st g ∧ r = .tuple ⟨[ptr pb, .int .i64 0, .int .i64 0]⟩) ∨
    (∃ e f, Rx.compileP s = .error (e, f) ∧ r = .tuple ⟨[.pointer none, .int .i64 (e : Nat), .int .i64 (if f = 1 then 8 else 9)]⟩))
set_option maxHeartbeats 4000000 in
theorem compile_ok (w : World) (s : List UInt8) (hT : Tabs w) (hl : s.length ≤ 9223372036854775807) : Ret Tryd.prog 11 ⟨[S s]⟩ w (CompS s w) := by
  refine ret_of_G Tryd.func11 rfl Tryd.ntmps11 rfl ?_
  simp only [argEnv]
  refine rn ?_
  first | refine G.condD rfl (fun hc => ?_) (fun hc => ?_) | refine G.condN rfl (fun hc => ?_) (fun hc => ?_) | refine G.cond rfl (fun hc => ?_) (fun hc => ?_)
  · have hc1 : 256 < s.length := by omega
    refine rn ?_
    refine G.ret3 rfl rfl rfl rfl rfl rfl ?_
    refine ⟨Ext.refl _, .inr ⟨0, 2, ?_, rfl⟩⟩
    unfold Rx.compileP; rw [if_pos hc1]
  have hc1 : ¬ 256 < s.length := by omega
  refine rn ?_
  refine sCall c34 (read_ok w s (by omega) hT) ?_
  rintro _ W1 ⟨hx1, ⟨t, g, v, hP, hTr, rfl⟩ | ⟨e, hP, rfl⟩⟩
  rotate_left
  · refine rn ?_
    refine G.ret3 rfl rfl rfl rfl rfl rfl ?_
    refine ⟨hx1, .inr ⟨e, 1, ?_, rfl⟩⟩
    unfold Rx.compileP; rw [if_neg hc1, hP]
  · have hcp := Rx.compileP_eq s
    rw [if_neg hc1, hP] at hcp
    simp only at hcp
    refine rn ?_
    refine sBox (fun W2 hb2 hs2 hx2 => ?_)
    refine rn ?_
    have hm0 : MkS (fun b => b < W1.heap.size) (fun b => w.heap.size ≤ b ∧ b < W1.heap.size) W2 W2 W1.heap.size ⟨[], false⟩ :=
      ⟨Kq.refl _ _, fun b hb => Nat.lt_of_lt_of_le hb hx2.size, fun b hb => hb.2, Nat.lt_irrefl _, ⟨nilV, [], hb2, ⟨Owns.nil _ _ _ _, rfl, fun i k p h => by simp at h, fun g h => by cases h⟩⟩, by simp⟩
    have hT2 : Tr W2 (fun b => w.heap.size ≤ b ∧ b < W1.heap.size) t v := hTr.same fun b hb hA => ⟨hx2.block b hb, hA, hb⟩
    refine sCall c35 (make_all t _ _ _ _ _ _ _ hm0 hT2) ?_
    intro _ W3 hm3
    refine rn ?_
    refine sCall c36 (put_ok _ W3 W1.heap.size _ (Rx.kOf 6) (.pointer none) hm3 (kof _ _ 6 (by decide))) ?_
    rintro _ W4 ⟨rfl, hm4⟩
    have hmp := Rx.make_prog t
    simp only at hmp
    generalize Rx.put (Rx.make t ⟨[], false⟩) (Rx.kOf 6) = pm at hm4 hmp
    obtain ⟨⟨st, full⟩, pi⟩ := pm
    simp only at hm4 hmp
    obtain ⟨hkq, _, _, _, ⟨sv, ps, hbx, hst⟩, hle⟩ := hm4
    have hx4 : Ext w W4 := ⟨hkq.os.trans (hx1.trans hx2).os, hkq.tape.trans (hx1.trans hx2).tape, hkq.output.trans (hx1.trans hx2).output, Nat.le_trans (hx1.trans hx2).size hkq.size, fun b hb => (hkq.same b (Nat.lt_of_lt_of_le hb (hx1.trans hx2).size) (Nat.lt_of_lt_of_le hb hx1.size)).trans ((hx1.trans hx2).block b hb)⟩
    have hbx : Bx W4 W1.heap.size [sv, .bool full] := hbx
    have hvs := hst.ow.sli
    refine rn ?_
    cases full
    · have hsz : ¬ 2000 < Rx.sizeT t + 1 := fun hc => by have := hmp.2 hc; cases this
      have hst0 : st = Rx.progT t := by have := hmp.1 (by omega); simp only [Rx.Mk.mk.injEq] at this; exact this.1
      subst hst0
      rw [if_neg hsz] at hcp
      obtain ⟨sa, sc, hse, _⟩ := hvs.len
      subst hse
      refine rn ?_
      refine sBox (fun W5 hb5 hs5 hx5 => ?_)
      refine rn ?_
      refine G.ret3 rfl rfl rfl rfl rfl rfl ?_
      refine ⟨hx4.trans hx5, .inl ⟨_, g, W4.heap.size, hcp, ⟨hx4.size, ⟨_, ps, hb5, (hst.ow.to hx5).mono (Nat.zero_le _), fun b e => ?_, hst.len, fun i k p hi hp => (hst.tr i k p hi hp).same fun b hb hQ => ?_⟩, hle⟩, rfl⟩⟩
      · have := (hst.ow.lt b e).1; have := hx1.size; omega
      · exact ⟨(hx5.block b (Nat.lt_of_lt_of_le hb hkq.size)).trans (hkq.same b hb hQ.2), hQ.1⟩
    · have hsz : 2000 < Rx.sizeT t + 1 := Decidable.byContradiction fun hc => by have := hmp.1 (by omega); simp at this
      rw [if_pos hsz] at hcp
      refine rn ?_
      refine G.ret3 rfl rfl rfl rfl rfl rfl ?_
      exact ⟨hx4, .inr ⟨0, 2, hcp, rfl⟩⟩
end Go.Proofs.YtbpkhgehchelhaaDoor
end
section
namespace Go.Vg
open Go.RowKit

theorem Owns.cut {w : World} {B : Nat} {v : Value} {et k : Nat} {xs : List (List Value)} (h : Owns w B v et k xs) {n : Nat} (hn : n ≤ xs.length) : Owns w B (subS v k 0 n) et k (xs.take n) := by
  obtain ⟨⟨hl, h⟩, hk, hb⟩ := h
  have hlt : (xs.take n).length = n := by simp; omega
  have hft := flatten_take xs n hk
  refine ⟨⟨?_, ?_⟩, fun x hx => hk x (List.take_subset _ _ hx), by omega⟩
  · rw [hlt, hft, List.length_take, hl]
    have := Nat.mul_le_mul_right k hn
    omega
  · rcases h with ⟨rfl, hx⟩ | ⟨g, cap, ⟨us⟩, rfl, h2, h3, h4, h5, h6, h7⟩
    · left
      have : n = 0 := by omega
      subst this
      exact ⟨by simp [subS], by simp⟩
    · right
      refine ⟨g, cap, ⟨us⟩, ?_, h2, h3, by omega, h5, h6, ?_⟩
      · rw [hlt]
        simp only [subS, Nat.sub_zero]
        split
        · rfl
        · simp [Addr.add]
      · rw [hlt, hft, ← h7]
        simp only
        rw [List.take_take, Nat.min_eq_left (Nat.mul_le_mul_right k hn)]
theorem subS_own {v : Value} {k l h : Nat} : (subS v k l h).ownBlock = v.ownBlock := by
  unfold subS
  split
  · rename_i a n cap
    cases a with
    | none => split <;> rfl
    | some a =>
      split
      · rfl
      · simp only [Option.map_some, Value.ownBlock, Addr.add_block]
  · rfl
section
variable {X : Cx} {ops : Array Oper} {l : List Oper} {kk : List Kt} {e : Env} {w : World} {N : Env → World → Prop} {d : Nat} {c : Option Bool} {ty : TypeId} {pos : String} {af : Array Edge} {g : Option (Nat × Bool)}

theorem Step.make1 (T : Tb X.P) {x y : Operand} {t et : TypeId} {z : Value} {bytes : Nat} (n : Nat) {m : Int} (hg : guardE ops e ⟨some d, .makeSlice t x y, ty, pos, af, g⟩ = some none)
    (hx : Op1 e none x (.int .i64 m)) (hy : Op1 e none y (.int .i64 m)) (hm : m = n) (ht : T.ty t = some (.slice et)) (hi : T.inf et = some (z, 1, bytes)) (hz : z.cells = ⟨[z]⟩)
    (hb : bytes * n ≤ 140737488355328) (hl : n ≤ 140737488355328) (hn : Nat.blt d X.n = true)
    (h : ∀ v w', Owns w' w.heap.size v et 1 ((List.replicate n z).map fun u => [u]) → w'.heap.size = w.heap.size + 1 → Ext w w' → v.ownBlock = some w.heap.size → N ((d, none, v) :: e) w') :
    Step X ops ⟨some d, .makeSlice t x y, ty, pos, af, g⟩ e w N := by
  obtain ⟨i, hi1, hi2, hi3, hi4⟩ := T.iok _ _ _ _ hi
  have hT := T.ok _ _ ht
  subst hm
  have hbb : i.bytes * n ≤ 281474976710656 := by rw [hi4]; omega
  have hr := run_make_row (P := X.P) t et i z hT hi1 hi2 hi3 hz .i64 .i64 n hbb (by omega) w
  have hfl : ((List.replicate n z).map fun u => [u]).flatten = List.replicate n z := by
    have : ∀ l : List Value, (l.map fun u => [u]).flatten = l := fun l => by
      induction l with
      | nil => rfl
      | cons a l ih => simp [ih]
    exact this _
  refine Step.eff (v := .slice (some ⟨w.heap.size, 0, none⟩) n n) (w' := w.alloc (.cells (madeCells #[z] n) et)) rfl (by simpa [Nat.blt_eq] using hn) hg (fun _ hh => by cases hh) (fun t' hf => ?_) (h _ _ ⟨⟨?_, ?_⟩, ?_, ?_⟩ (by simp) (Ext.alloc _ _) rfl)
  · simp only [execOp, hx.val hf rfl, hy.val hf rfl, Sem.run_bind, hr, Result.andThen_ok, Sem.run_pure]
  · rw [hfl]; simp
  · right
    refine ⟨w.heap.size, n, madeCells #[z] n, by simp, Nat.le_refl _, heap_alloc_new _ _, by simp, by unfold maxLen; omega, by simp [madeCells], ?_⟩
    rw [hfl, toList_madeCells_one]
    simp
  · intro x hx
    simp only [List.mem_map] at hx
    obtain ⟨u, _, rfl⟩ := hx
    rfl
  · simp; exact hl
theorem sMkS (T : Tb X.P) {x y : Operand} {t et : TypeId} {z : Value} {bytes : Nat} (n : Nat) {m : Int}
    (h : ∀ v w', Owns w' w.heap.size v et 1 ((List.replicate n z).map fun u => [u]) → w'.heap.size = w.heap.size + 1 → Ext w w' → v.ownBlock = some w.heap.size → GL X ops l kk ((d, none, v) :: e) w')
    (hm : m = n := by omega) (hb : bytes * n ≤ 140737488355328 := by omega) (hl : n ≤ 140737488355328 := by omega)
    (hg : guardE ops e ⟨some d, .makeSlice t x y, ty, pos, af, g⟩ = some none := by exact rfl)
    (hx : Op1 e none x (.int .i64 m) := by exact Op1.of rfl (fun _ => rfl)) (hy : Op1 e none y (.int .i64 m) := by exact Op1.of rfl (fun _ => rfl)) (ht : T.ty t = some (.slice et) := by exact rfl) (hi : T.inf et = some (z, 1, bytes) := by exact rfl) (hz : z.cells = ⟨[z]⟩ := by exact rfl)
    (hn : Nat.blt d X.n = true := by exact rfl) :
    GL X ops (⟨some d, .makeSlice t x y, ty, pos, af, g⟩ :: l) kk e w := GL.cons (Step.make1 T n hg hx hy hm ht hi hz hb hl hn h)
end
end Go.Vg
end
section
open Go Go.Vg Go.RowKit Go.Proofs Go.Proofs.YtbpkhgehchelhaaDoor
namespace Go.Proofs.YtbpkhgehchelhaaDoor

set_option maxHeartbeats 4000000 in
theorem has_ok (w : World) (A : Nat → Prop) (l : List (Nat × Nat)) (neg : Bool) (v : Value) (c : Nat) (hT : Tr w A (.set l neg) v) :
    Ret Tryd.prog 63 ⟨[v, .int .i32 c]⟩ w fun r w' => r = .bool (Rx.has l neg c) ∧ Ext w w' := by
  cases hT with
  | mk b sp ks us hA hb hsp hm hk hl hkids =>
  have hb : Bx w b (trC 1 sp neg 0 0 0 false false ks) := hb
  unfold trC at hb
  have hso : Owns w 0 sp 140 2 (l.map spanC) := hsp.own
  have hvs := hso.sli
  have hbn := hso.2.2
  rw [List.length_map] at hbn
  refine ret_of_G Tryd.func63 rfl Tryd.ntmps63 rfl ?_
  simp only [argEnv]
  refine rn ?_
  rw [List.length_map]
  refine rn ?_
  refine (G.loop (fun i : Nat => [(0, none, ptr b), (1, none, .int .i32 c), (10, none, sp), (11, none, .int .i64 l.length), (12, none, .int .i64 i)])
    (fun i W => Ext w W ∧ i ≤ l.length ∧ Rx.has l neg c = Rx.has (l.drop i) neg c) (fun i => l.length - i) 0 (by repeat (first | exact Sub.nil _ | refine Sub.cons rfl ?_)) ⟨Ext.refl _, Nat.zero_le _, rfl⟩ ?_)
  rintro i W ⟨hx, hi, hE⟩
  clear hvs
  have hso := hso.to hx
  have hb := hb.to hx
  have hvs := hso.sli
  refine rn ?_
  first | refine G.condD rfl (fun hc => ?_) (fun hc => ?_) | refine G.condN rfl (fun hc => ?_) (fun hc => ?_) | refine G.cond rfl (fun hc => ?_) (fun hc => ?_)
  · have hlt : i < l.length := by omega
    have hget : (l.map spanC)[i]? = some (spanC l[i]) := by rw [List.getElem?_map, List.getElem?_eq_getElem hlt]; rfl
    rw [List.drop_eq_getElem_cons hlt] at hE
    generalize l[i] = x at hget hE
    obtain ⟨x1, x2⟩ := x
    unfold spanC at hget
    try (first | refine gl tb ?_ | refine gg tb ?_ | refine ll tb ?_ | refine lg tb ?_); repeat ((first | refine G.condT rfl ?_ | refine G.condF rfl ?_ | refine sFa tb ?_ | refine sLd tb ?_ | refine sLa tb ?_ | refine sLen tb ?_ | refine sFd tb ?_ | refine sBd tb ?_ | refine sIa tb i ?_); try (first | refine gl tb ?_ | refine gg tb ?_ | refine ll tb ?_ | refine lg tb ?_))
    refine sAl tb (fun W1 hb1 hs1 hx1 => ?_)
    refine rn ?_
    refine sSt tb (fun W2 hb2 hw2 => ?_)
    have hbt : Bx W2 W.heap.size [.int .i32 x1, .int .i32 x2] := hb2
    have hxw2 : Ext W W2 := Ext.ofKp hx1 hw2.kp (Nat.le_refl _)
    have hb := hb.to hxw2
    refine rn ?_
    first | refine G.condD rfl (fun hc => ?_) (fun hc => ?_) | refine G.condN rfl (fun hc => ?_) (fun hc => ?_) | refine G.cond rfl (fun hc => ?_) (fun hc => ?_)
    · have hc' : x1 ≤ c ∧ c ≤ x2 := by
        simp only [cv, Bool.and_eq_true, decide_eq_true_eq] at hc
        omega
      refine rn ?_
      refine G.ret1 rfl rfl rfl rfl ?_
      refine ⟨?_, hx.trans hxw2⟩
      rw [hE]
      unfold Rx.has Rx.hasL
      simp [hc'.1, hc'.2]
    · have hc' : ¬ (x1 ≤ c ∧ c ≤ x2) := by
        simp only [cv, Bool.and_eq_false_iff, decide_eq_false_iff_not] at hc
        omega
      refine rn ?_
      refine sAd tb (r := ((i + 1 : Nat) : Int)) ?_
      refine rn ?_
      refine G.lp (x := i) (i + 1) (by repeat (first | exact Sub.nil _ | refine Sub.cons rfl ?_)) ⟨hx.trans hxw2, by omega, ?_⟩ (by omega)
      rw [hE]
      unfold Rx.has
      rw [Rx.hasL]
      have : (decide (x1 ≤ c) && decide (c ≤ x2)) = false := by
        rcases Decidable.em (x1 ≤ c) with h1 | h1
        · simp only [h1, decide_true, Bool.true_and, decide_eq_false_iff_not]; exact fun h2 => hc' ⟨h1, h2⟩
        · simp [h1]
      simp only [this, Bool.false_or]
  · have hie : i = l.length := by omega
    subst hie
    refine rn ?_
    refine G.ret1 rfl rfl rfl rfl ?_
    refine ⟨?_, hx⟩
    rw [hE, List.drop_length]
    rfl

/-- what is on the stack, in cells -/
def bkC : Rx.Bk → List Value
  | .fork pc at_ => [.bool true, .int .i64 pc, .int .i64 at_, .int .i64 0, .int .i64 0, .int .i64 0]
  | .note slot was => [.bool false, .int .i64 0, .int .i64 0, .int .i64 slot, .int .i64 was, .int .i64 0]
def inC (i : Int) : List Value := [.int .i64 i]
def boC (b : Bool) : List Value := [.bool b]
/-- a search in memory -/
structure RunM (w W : World) (nv sv kv : Value) (r : Rx.Rs) : Prop where
  ext : Ext w W
  n : Owns W w.heap.size nv 3 1 (r.notes.map inC)
  s : Owns W w.heap.size sv 4 1 (r.seen.map boC)
  k : Owns W w.heap.size kv 126 6 (r.stack.map bkC)
  ns : ∀ g, nv.ownBlock = some g → sv.ownBlock ≠ some g
  nk : ∀ g, nv.ownBlock = some g → kv.ownBlock ≠ some g
  sk : ∀ g, sv.ownBlock = some g → kv.ownBlock ≠ some g
theorem RunM.to {w W W' : World} {nv sv kv : Value} {r : Rx.Rs} (h : RunM w W nv sv kv r) (hx : Ext W W') : RunM w W' nv sv kv r :=
  ⟨h.ext.trans hx, h.n.to hx, h.s.to hx, h.k.to hx, h.ns, h.nk, h.sk⟩
theorem _root_.Go.Vg.Grew.ext0 {w W W' : World} {v : Value} (hg : Grew w.heap.size v W W') (h : Ext w W) : Ext w W' := hg.below w h
theorem RunM.setN {w W W' : World} {nv sv kv : Value} {r : Rx.Rs} {l : List Int} (h : RunM w W nv sv kv r) (ho : Owns W' w.heap.size nv 3 1 (l.map inC)) (hg : Grew w.heap.size nv W W') : RunM w W' nv sv kv ⟨l, r.seen, r.stack⟩ :=
  ⟨hg.ext0 h.ext, ho, h.s.same fun g hl e => hg.block g hl fun e' => h.ns g e'.symm e, h.k.same fun g hl e => hg.block g hl fun e' => h.nk g e'.symm e, h.ns, h.nk, h.sk⟩
theorem RunM.setS {w W W' : World} {nv sv kv : Value} {r : Rx.Rs} {l : List Bool} (h : RunM w W nv sv kv r) (ho : Owns W' w.heap.size sv 4 1 (l.map boC)) (hg : Grew w.heap.size sv W W') : RunM w W' nv sv kv ⟨r.notes, l, r.stack⟩ :=
  ⟨hg.ext0 h.ext, h.n.same fun g hl e => hg.block g hl fun e' => h.ns g e e'.symm, ho, h.k.same fun g hl e => hg.block g hl fun e' => h.sk g e'.symm e, h.ns, h.nk, h.sk⟩
theorem RunM.app {w W W' : World} {nv sv kv kv' : Value} {r : Rx.Rs} {x : Rx.Bk} (h : RunM w W nv sv kv r) (ho : Owns W' w.heap.size kv' 126 6 (r.stack.map bkC ++ [bkC x])) (hg : Grew w.heap.size kv W W') (h2 : Own2 W kv kv') :
    RunM w W' nv sv kv' ⟨r.notes, r.seen, r.stack ++ [x]⟩ := by
  have hne : ∀ (v : Value) (xs : List (List Value)) (et q : Nat), Owns W w.heap.size v et q xs → (∀ g, v.ownBlock = some g → kv.ownBlock ≠ some g) → ∀ g, v.ownBlock = some g → kv'.ownBlock ≠ some g := by
    intro v xs et q ho hk g hg' e
    rcases h2 with h2 | h2
    · exact hk g hg' (h2 ▸ e)
    · rw [h2] at e
      cases e
      exact absurd (ho.lt _ hg').2 (Nat.lt_irrefl _)
  refine ⟨hg.ext0 h.ext, h.n.same fun g hl e => hg.block g hl fun e' => h.nk g e e'.symm, h.s.same fun g hl e => hg.block g hl fun e' => h.sk g e e'.symm, ?_, h.ns, hne _ _ _ _ h.n h.nk, hne _ _ _ _ h.s h.sk⟩
  simpa using ho
theorem RunM.cut {w W : World} {nv sv kv : Value} {r : Rx.Rs} (h : RunM w W nv sv kv r) {n : Nat} (hn : n ≤ r.stack.length) : RunM w W nv sv (subS kv 6 0 n) ⟨r.notes, r.seen, r.stack.take n⟩ := by
  refine ⟨h.ext, h.n, h.s, ?_, h.ns, fun g e => by rw [subS_own]; exact h.nk g e, fun g e => by rw [subS_own]; exact h.sk g e⟩
  have := h.k.cut (n := n) (by simpa using hn)
  simpa [List.map_take] using this
end Go.Proofs.YtbpkhgehchelhaaDoor
end
section
namespace Go.Rx

/-- part a of s at place p; behind it a bracket or nothing -/
structure In (s a : List UInt8) (p : Nat) : Prop where
  le : p + a.length ≤ s.length
  at_ : ∀ j, j < a.length → s.getD (p + j) 0 = a.getD j 0
  end_ : p + a.length = s.length ∨ s.getD (p + a.length) 0 = 41

theorem In.isB {s a : List UInt8} {p : Nat} (h : In s a p) {j : Nat} (hj : j ≤ a.length) {b : UInt8} (hb : b ≠ 41) : isB s (p + j) b = isB a j b := by
  unfold Rx.isB
  by_cases hlt : j < a.length
  · have := h.le
    rw [h.at_ j hlt, decide_eq_true (show p + j < s.length by omega), decide_eq_true hlt]
  · have : j = a.length := by omega
    subst this
    simp only [Nat.lt_irrefl, decide_false, Bool.false_and]
    rcases h.end_ with he | he
    · rw [decide_eq_false (by omega)]; rfl
    · rw [he, decide_eq_false (p := (41 : UInt8) = b) (fun k => hb k.symm), Bool.and_false]
theorem In.isB_of {s a : List UInt8} {p : Nat} (h : In s a p) {j : Nat} {b : UInt8} (hb : Rx.isB a j b = true) : Rx.isB s (p + j) b = true := by
  have hlt := isB_lt hb
  unfold Rx.isB at hb ⊢
  have := h.le
  rw [h.at_ j hlt, decide_eq_true (show p + j < s.length by omega)]
  rw [decide_eq_true hlt] at hb
  exact hb
theorem decodeN_in {n n' a b c d b' c' d' : Nat} (hn : 1 ≤ n) (h : n ≤ n') (hb : 2 ≤ n → b' = b) (hc : 3 ≤ n → c' = c) (hd : 4 ≤ n → d' = d)
    (h1 : n = 1 → n' = 1 ∨ b' = 41) (h2 : n = 2 → n' = 2 ∨ c' = 41) (h3 : n = 3 → n' = 3 ∨ d' = 41) : Lib.decodeN n' a b' c' d' = Lib.decodeN n a b c d := by
  have k1 : ∀ m : Nat, ¬ (m < m) := fun m => Nat.lt_irrefl m
  rcases (show n = 1 ∨ n = 2 ∨ n = 3 ∨ 4 ≤ n by omega) with e | e | e | e
  · subst e
    have z1 : ¬ (1 < n' ∧ b' / 64 = 2) := by rcases h1 rfl with e | e <;> omega
    unfold Lib.decodeN
    have e1 : ∀ P Q : Prop, (P ∧ 1 < n' ∧ b' / 64 = 2) ↔ False := fun P Q => ⟨fun h => z1 h.2, False.elim⟩
    have e2 : ∀ P Q : Prop, (P ∧ (1 < n' ∧ b' / 64 = 2) ∧ Q) ↔ False := fun P Q => ⟨fun h => z1 h.2.1, False.elim⟩
    rw [if_neg (show ¬ (a / 32 = 6 ∧ 1 < n' ∧ b' / 64 = 2) from fun h => z1 h.2), if_neg (show ¬ (a / 16 = 14 ∧ (1 < n' ∧ b' / 64 = 2) ∧ 2 < n' ∧ c' / 64 = 2) from fun h => z1 h.2.1), if_neg (show ¬ (a / 8 = 30 ∧ (1 < n' ∧ b' / 64 = 2) ∧ (2 < n' ∧ c' / 64 = 2) ∧ 3 < n' ∧ d' / 64 = 2) from fun h => z1 h.2.1),
      if_neg (show ¬ (a / 32 = 6 ∧ 1 < 1 ∧ b / 64 = 2) by omega), if_neg (show ¬ (a / 16 = 14 ∧ (1 < 1 ∧ b / 64 = 2) ∧ 2 < 1 ∧ c / 64 = 2) by omega), if_neg (show ¬ (a / 8 = 30 ∧ (1 < 1 ∧ b / 64 = 2) ∧ (2 < 1 ∧ c / 64 = 2) ∧ 3 < 1 ∧ d / 64 = 2) by omega)]
  · subst e
    have := hb (by omega); subst this
    have z1 : ¬ (2 < n' ∧ c' / 64 = 2) := by rcases h2 rfl with e | e <;> omega
    have y1 : 1 < n' := by omega
    unfold Lib.decodeN
    rw [if_neg (show ¬ (a / 16 = 14 ∧ (1 < n' ∧ b' / 64 = 2) ∧ 2 < n' ∧ c' / 64 = 2) from fun h => z1 h.2.2), if_neg (show ¬ (a / 8 = 30 ∧ (1 < n' ∧ b' / 64 = 2) ∧ (2 < n' ∧ c' / 64 = 2) ∧ 3 < n' ∧ d' / 64 = 2) from fun h => z1 h.2.2.1),
      if_neg (show ¬ (a / 16 = 14 ∧ (1 < 2 ∧ b' / 64 = 2) ∧ 2 < 2 ∧ c / 64 = 2) by omega), if_neg (show ¬ (a / 8 = 30 ∧ (1 < 2 ∧ b' / 64 = 2) ∧ (2 < 2 ∧ c / 64 = 2) ∧ 3 < 2 ∧ d / 64 = 2) by omega)]
    simp only [y1, show 1 < 2 by omega, true_and]
  · subst e
    have := hb (by omega); subst this
    have := hc (by omega); subst this
    have z1 : ¬ (3 < n' ∧ d' / 64 = 2) := by rcases h3 rfl with e | e <;> omega
    have y1 : 1 < n' := by omega
    have y2 : 2 < n' := by omega
    unfold Lib.decodeN
    rw [if_neg (show ¬ (a / 8 = 30 ∧ (1 < n' ∧ b' / 64 = 2) ∧ (2 < n' ∧ c' / 64 = 2) ∧ 3 < n' ∧ d' / 64 = 2) from fun h => z1 h.2.2.2),
      if_neg (show ¬ (a / 8 = 30 ∧ (1 < 3 ∧ b' / 64 = 2) ∧ (2 < 3 ∧ c' / 64 = 2) ∧ 3 < 3 ∧ d / 64 = 2) by omega)]
    simp only [y1, y2, show 1 < 3 by omega, show 2 < 3 by omega, true_and]
  · have := hb (by omega); subst this
    have := hc (by omega); subst this
    have := hd (by omega); subst this
    have y1 : 1 < n' := by omega
    have y2 : 2 < n' := by omega
    have y3 : 3 < n' := by omega
    have x1 : 1 < n := by omega
    have x2 : 2 < n := by omega
    have x3 : 3 < n := by omega
    unfold Lib.decodeN
    simp only [y1, y2, y3, x1, x2, x3, true_and]
theorem In.dec {s a : List UInt8} {p : Nat} (h : In s a p) {j : Nat} (hj : j < a.length) : dec s (p + j) = dec a j := by
  have hle := h.le
  have hg : ∀ k, j + k < a.length → s.getD (p + j + k) 0 = a.getD (j + k) 0 := fun k hk => by rw [Nat.add_assoc]; exact h.at_ _ hk
  have h0 : s.getD (p + j) 0 = a.getD j 0 := h.at_ j hj
  have h41 : ∀ k, j + k = a.length → s.length - (p + j) = a.length - j ∨ (s.getD (p + j + k) 0).toNat = 41 := fun k hk => by
    rcases h.end_ with he | he
    · left; omega
    · right; rw [show p + j + k = p + a.length by omega, he]; rfl
  unfold Rx.dec
  rw [h0]
  refine decodeN_in (by omega) (by omega) (fun k => by rw [hg 1 (by omega)]) (fun k => by rw [hg 2 (by omega)]) (fun k => by rw [hg 3 (by omega)]) (fun k => ?_) (fun k => ?_) (fun k => ?_)
  · rcases h41 1 (by omega) with e | e
    · left; omega
    · exact .inr e
  · rcases h41 2 (by omega) with e | e
    · left; omega
    · exact .inr e
  · rcases h41 3 (by omega) with e | e
    · left; omega
    · exact .inr e

theorem escape_in {s a : List UInt8} {p i j : Nat} {r : List (Nat × Nat) × Bool} (h : In s a p) (he : escape a i = .ok (r, j)) : escape s (p + i) = .ok (r, p + j) := by
  unfold escape at he ⊢
  split at he
  · rename_i hi
    have := h.le
    rw [if_pos (by omega), h.dec hi]
    split at he
    · rename_i r' e'
      simp only [Except.ok.injEq, Prod.mk.injEq] at he
      rw [← he.1, ← he.2, Nat.add_assoc]
    · cases he
  · cases he
theorem one_in {s a : List UInt8} {p i j : Nat} {r : List (Nat × Nat) × Bool} (h : In s a p) (he : one a i = .ok (r, j)) : one s (p + i) = .ok (r, p + j) := by
  have hadv := one_adv he
  unfold one at he ⊢
  rw [h.isB (by omega) (by decide)]
  split
  · rename_i hb
    rw [if_pos hb] at he
    rcases hx : escape a (i + 1) with e | ⟨⟨l, neg⟩, k⟩
    · rw [hx] at he; cases he
    · have hi1 := escape_adv hx
      rw [Nat.add_assoc, escape_in h hx]
      rw [hx] at he
      simp only at he ⊢
      cases neg
      · simp only [Bool.false_eq_true, if_false, Except.ok.injEq, Prod.mk.injEq] at he ⊢
        have hlt : i + 1 < a.length := by
          unfold escape at hx
          split at hx
          · assumption
          · cases hx
        rw [h.at_ _ hlt]
        exact ⟨he.1, by omega⟩
      · simp only [if_true, Except.ok.injEq, Prod.mk.injEq] at he ⊢
        exact ⟨he.1, by omega⟩
  · rename_i hb
    rw [if_neg hb] at he
    split at he
    · rename_i hi
      have := h.le
      rw [if_pos (by omega), h.dec hi]
      simp only [Except.ok.injEq, Prod.mk.injEq] at he ⊢
      exact ⟨he.1, by omega⟩
    · cases he
theorem last_in {s a : List UInt8} {p i f x j : Nat} (h : In s a p) (he : last a i f = .ok (x, j)) : last s (p + i) f = .ok (x, p + j) := by
  have hadv := last_adv he
  have hle := h.le
  unfold last at he ⊢
  split at he
  · cases he
  · rename_i hc
    rcases ho : one a i with e | ⟨⟨l, b⟩, k⟩
    · rw [ho] at he; cases he
    · have hk := one_adv ho
      rw [if_neg, one_in h ho]
      · rw [ho] at he
        simp only at he ⊢
        split at he
        · cases he
        · rename_i hl
          rw [if_neg hl]
          simp only [Except.ok.injEq, Prod.mk.injEq] at he ⊢
          exact ⟨he.1, by omega⟩
      · rintro ⟨h1, h2, h3⟩
        rw [h.isB (by omega) (by decide)] at h1
        have hlt : i + 1 < a.length := by
          rw [one, if_pos h1] at ho
          rcases hx : escape a (i + 1) with e | ⟨⟨l', neg⟩, k'⟩
          · rw [hx] at ho; cases ho
          · have := escape_adv hx
            omega
        rw [Nat.add_assoc, h.at_ _ hlt] at h3
        exact hc ⟨h1, hlt, h3⟩
theorem member_in {s a : List UInt8} {p i j : Nat} {f : Bool} {l : List (Nat × Nat)} (h : In s a p) (he : member a i f = .ok (l, j)) : member s (p + i) f = .ok (l, p + j) := by
  have hadv := member_adv he
  unfold member at he ⊢
  rcases ho : one a i with e | ⟨⟨l1, sg⟩, k⟩
  · rw [ho] at he; cases he
  · have hk := one_adv ho
    rw [ho] at he
    rw [one_in h ho]
    simp only at he ⊢
    rw [h.isB (by omega) (by decide), h.isB hk.2 (by decide), h.isB hk.2 (by decide)]
    split at he
    · cases he
    · rename_i hc
      rw [if_neg hc]
      have h93 : (Rx.isB a k 45 && !Rx.isB s (p + k + 1) 93) = (Rx.isB a k 45 && !Rx.isB a (k + 1) 93) := by
        by_cases hb : Rx.isB a k 45 = true
        · have := isB_lt hb
          rw [Nat.add_assoc, h.isB (by omega) (by decide)]
        · rw [Bool.not_eq_true] at hb; rw [hb, Bool.false_and, Bool.false_and]
      rw [Bool.and_assoc, h93, ← Bool.and_assoc]
      split at he
      · rename_i hc2
        rw [if_pos hc2]
        split at he
        · rename_i hs
          rw [if_pos hs]
          rcases hx : last a (k + 1) (lo l1) with e | ⟨x, b⟩
          · rw [hx] at he; cases he
          · rw [hx] at he
            rw [Nat.add_assoc, last_in h hx]
            simp only [Except.ok.injEq, Prod.mk.injEq] at he ⊢
            exact ⟨he.1, by omega⟩
        · cases he
      · rename_i hc2
        rw [if_neg hc2]
        simp only [Except.ok.injEq, Prod.mk.injEq] at he ⊢
        exact ⟨he.1, by omega⟩
theorem classL_in {s a : List UInt8} {p : Nat} (h : In s a p) : ∀ (n n' : Nat) (f : Bool) (i j : Nat) (acc l : List (Nat × Nat)), n ≤ n' → i ≤ a.length → classL a n f i acc = .ok (l, j) → classL s n' f (p + i) acc = .ok (l, p + j)
  | 0, _, _, _, _, _, _, _, _, he => by simp [classL] at he
  | n + 1, 0, _, _, _, _, _, hn, _, _ => by omega
  | n + 1, n' + 1, f, i, j, acc, l, hn, hi, he => by
    rw [classL] at he ⊢
    rw [h.isB hi (by decide)]
    split at he
    · rename_i hc
      rw [if_pos hc]
      simp only [Except.ok.injEq, Prod.mk.injEq] at he ⊢
      exact ⟨he.1, by omega⟩
    · rename_i hc
      rw [if_neg hc]
      rcases hm : member a i f with e | ⟨l1, k⟩
      · rw [hm] at he; cases he
      · have hk := member_adv hm
        rw [hm] at he
        rw [member_in h hm]
        exact classL_in h n n' false k j _ _ (by omega) hk.2 he
theorem cls_in {s a : List UInt8} {p i j : Nat} {t : T} (h : In s a p) (hi : i ≤ a.length) (he : cls a i = .ok (t, j)) : cls s (p + i) = .ok (t, p + j) := by
  have hle := h.le
  unfold cls at he ⊢
  rw [h.isB hi (by decide)]
  simp only at he ⊢
  have e1 : (if Rx.isB a i 94 = true then p + i + 1 else p + i) = p + (if Rx.isB a i 94 = true then i + 1 else i) := by split <;> omega
  have e2 : (if Rx.isB a i 94 = true then i + 1 else i) ≤ a.length := by
    split
    · rename_i hb; have := isB_lt hb; omega
    · exact hi
  rw [e1]
  generalize (if Rx.isB a i 94 = true then i + 1 else i) = q at he e2 ⊢
  rcases hc : classL a (a.length - q + 1) true q [] with e | ⟨l, k⟩
  · rw [hc] at he; cases he
  · rw [hc] at he
    rw [classL_in h _ _ true q k [] l (by omega) e2 hc]
    simp only [Except.ok.injEq, Prod.mk.injEq] at he ⊢
    exact ⟨he.1, by omega⟩
theorem countL_in {s a : List UInt8} {p frm : Nat} (h : In s a p) : ∀ (n n' i k : Nat), n ≤ n' → i + n = a.length → frm ≤ i → countL s (p + frm) n' (p + i) k = ((countL a frm n i k).1, p + (countL a frm n i k).2)
  | 0, n', i, k, hn, hi, hf => by
    have : i = a.length := by omega
    subst this
    have hle := h.le
    have : countL s (p + frm) n' (p + a.length) k = (k, p + a.length) := by
      cases n' with
      | zero => rfl
      | succ n' =>
        rw [countL, if_neg]
        rintro ⟨h1, h2, -⟩
        rcases h.end_ with e | e
        · omega
        · rw [e] at h2; exact absurd h2 (by decide)
    rw [this]; rfl
  | n + 1, 0, i, k, hn, _, _ => by omega
  | n + 1, n' + 1, i, k, hn, hi, hf => by
    have hle := h.le
    have hlt : i < a.length := by omega
    rw [countL, countL, h.at_ i hlt, h.at_ frm (by omega)]
    have hiff : (p + i < s.length ∧ 48 ≤ (a.getD i 0).toNat ∧ (a.getD i 0).toNat ≤ 57 ∧ (p + i = p + frm ∨ a.getD frm 0 ≠ 48)) ↔ (i < a.length ∧ 48 ≤ (a.getD i 0).toNat ∧ (a.getD i 0).toNat ≤ 57 ∧ (i = frm ∨ a.getD frm 0 ≠ 48)) := by
      constructor
      · rintro ⟨_, h2, h3, h4⟩; exact ⟨hlt, h2, h3, h4.imp (fun e => by omega) id⟩
      · rintro ⟨_, h2, h3, h4⟩; exact ⟨by omega, h2, h3, h4.imp (fun e => by omega) id⟩
    by_cases hc : (i < a.length ∧ 48 ≤ (a.getD i 0).toNat ∧ (a.getD i 0).toNat ≤ 57 ∧ (i = frm ∨ a.getD frm 0 ≠ 48))
    · rw [if_pos hc, if_pos (hiff.2 hc), Nat.add_assoc]
      exact countL_in h n n' (i + 1) _ (by omega) (by omega) (by omega)
    · rw [if_neg hc, if_neg (fun k => hc (hiff.1 k))]
theorem count_in {s a : List UInt8} {p i j n : Nat} (h : In s a p) (hi : i ≤ a.length) (he : count a i = .ok (n, j)) : count s (p + i) = .ok (n, p + j) := by
  have hle := h.le
  unfold count at he ⊢
  simp only at he ⊢
  rw [countL_in h (a.length - i) (s.length - (p + i)) i 0 (by omega) (by omega) (Nat.le_refl _)]
  generalize countL a i (a.length - i) i 0 = r at he ⊢
  obtain ⟨r1, r2⟩ := r
  simp only at he ⊢
  split at he
  · cases he
  · rename_i hc
    rw [if_neg (by omega)]
    simp only [Except.ok.injEq, Prod.mk.injEq] at he ⊢
    exact ⟨he.1, by omega⟩
theorem most_in {s a : List UInt8} {p l i j : Nat} {m : Int} (h : In s a p) (hi : i ≤ a.length) (he : most a l i = .ok (m, j)) : most s l (p + i) = .ok (m, p + j) := by
  unfold most at he ⊢
  rw [h.isB hi (by decide)]
  split at he
  · rename_i hb
    have hlt := isB_lt hb
    rw [if_pos hb, Nat.add_assoc, h.isB (by omega) (by decide)]
    split at he
    · rename_i hb2
      rw [if_pos hb2]
      simp only [Except.ok.injEq, Prod.mk.injEq] at he ⊢
      exact ⟨he.1, by omega⟩
    · rename_i hb2
      rw [if_neg hb2]
      rcases hx : count a (i + 1) with e | ⟨m', b⟩
      · rw [hx] at he; cases he
      · rw [hx] at he
        rw [count_in h (by omega) hx]
        simp only [Except.ok.injEq, Prod.mk.injEq] at he ⊢
        exact ⟨he.1, by omega⟩
  · rename_i hb
    rw [if_neg hb]
    simp only [Except.ok.injEq, Prod.mk.injEq] at he ⊢
    exact ⟨he.1, by omega⟩
theorem braces_in {s a : List UInt8} {p i j : Nat} {r : Nat × Int} (h : In s a p) (hi : i ≤ a.length) (he : braces a i = .ok (r, j)) : braces s (p + i) = .ok (r, p + j) := by
  unfold braces at he ⊢
  rcases hx : count a i with e | ⟨least, k⟩
  · rw [hx] at he; cases he
  · have hk := count_adv hi hx
    rw [hx] at he
    rw [count_in h hi hx]
    simp only at he ⊢
    rcases hy : most a least k with e | ⟨mx, b⟩
    · rw [hy] at he; cases he
    · have hb := most_adv hk.2 hy
      rw [hy] at he
      rw [most_in h hk.2 hy]
      simp only at he ⊢
      rw [h.isB hb.2 (by decide)]
      split at he
      · rename_i hc
        rw [if_pos hc]
        split at he
        · cases he
        · rename_i hc2
          rw [if_neg hc2]
          simp only [Except.ok.injEq, Prod.mk.injEq] at he ⊢
          exact ⟨he.1, by omega⟩
      · cases he
theorem rept_in {s a : List UInt8} {p i : Nat} {o : Option (Nat × Int × Bool × Nat)} (h : In s a p) (hi : i ≤ a.length) (he : rept a i = .ok o) : rept s (p + i) = .ok (o.map fun x => (x.1, x.2.1, x.2.2.1, p + x.2.2.2)) := by
  unfold rept at he ⊢
  rw [h.isB hi (by decide), h.isB hi (by decide), h.isB hi (by decide), h.isB hi (by decide)]
  by_cases h1 : Rx.isB a i 42 = true
  · rw [if_pos h1] at he ⊢; cases he; rfl
  rw [if_neg h1] at he ⊢
  by_cases h2 : Rx.isB a i 43 = true
  · rw [if_pos h2] at he ⊢; cases he; rfl
  rw [if_neg h2] at he ⊢
  by_cases h3 : Rx.isB a i 63 = true
  · rw [if_pos h3] at he ⊢; cases he; rfl
  rw [if_neg h3] at he ⊢
  by_cases h4 : Rx.isB a i 123 = true
  · rw [if_pos h4] at he ⊢
    have := isB_lt h4
    rcases hx : braces a (i + 1) with e | ⟨⟨mn, mx⟩, b⟩
    · rw [hx] at he; cases he
    · rw [hx] at he
      rw [Nat.add_assoc, braces_in h (by omega) hx]
      simp only at he ⊢
      cases he; rfl
  · rw [if_neg h4] at he ⊢; cases he; rfl
end Go.Rx
end
