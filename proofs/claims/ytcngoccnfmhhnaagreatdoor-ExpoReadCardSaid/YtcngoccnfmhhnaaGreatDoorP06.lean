/- Part of the proof of a statement about the given program. -/
import Derived.Test.YtcngoccnfmhhnaaGreatDoorP05
import Derived.Lib.IndexLaws
import Derived.Lib.SlTrimSet
import Derived.Shelf.Strings.SlTrimAscii
import Derived.Test.YtcngoccnfmhhnaaGreatDoorProg
import Derived.Lib.Bytes
import Derived.Deep.Slices
import Derived.ProofKit
import Derived.Carry
import Derived.Deep.DeepHandedRow
import Derived.OpenShut
import Derived.Lib.ValidLaws
set_option linter.unusedSimpArgs false
set_option linter.unusedVariables false
set_option linter.unusedSectionVars false
section
open Go Go.Vg Go.RowKit Go.Proofs Go.Proofs.YtcngoccnfmhhnaaGreatDoor
namespace Go.Proofs.YtcngoccnfmhhnaaGreatDoor
open Go.Ex

/-- a line that is taken, with its labels as they lie in the set -/
def LineIs (s : List UInt8) (L : LineS) (out : List Lab.Lab) : Prop := sampleP Num.intP s = some L ∧ (∀ x ∈ L.labs, x.1 ≠ nameB) ∧ Lab.newS ((nameB, L.name) :: L.labs) 0 out
/-- a line that is refused -/
def LineNo (s : List UInt8) : Prop := sampleP Num.intP s = none ∨ ∃ L, sampleP Num.intP s = some L ∧ ((∃ x ∈ L.labs, x.1 = nameB) ∨ (∀ x ∈ L.labs, x.1 ≠ nameB) ∧ ∃ e out, e ≠ 0 ∧ Lab.newS ((nameB, L.name) :: L.labs) e out)
/-- what whole gives -/
def WholeS (ok : LineS → List Lab.Lab → Prop) (no : Prop) (w : World) (r : Value) (w' : World) : Prop :=
  Ext w w' ∧ ((∃ L v out, ok L out ∧ r = .tuple ⟨[.agg ⟨linC v L.val L.time⟩, .int .i64 0, .int .i64 0]⟩ ∧ Lab.LO w' w.heap.size v out) ∨
    (no ∧ ∃ a e : Int, e ≠ 0 ∧ r = .tuple ⟨[.agg ⟨linZ⟩, .int .i64 a, .int .i64 e]⟩))
theorem linZ_one : ∀ y ∈ linZ, y.oneCell' = true := by
  intro y hy
  simp only [linZ, List.mem_cons, List.not_mem_nil, or_false] at hy
  rcases hy with rfl | rfl | rfl | rfl <;> rfl
set_option maxHeartbeats 4000000 in
theorem whole_ok (w : World) (s : List UInt8) (hs : s.length ≤ 1000000000) (hT : Tabs w) (hn : ∀ L, sampleP Num.intP s = some L → L.labs.length ≤ 999) : Ret Tryz.prog 49 ⟨[S s]⟩ w (WholeS (LineIs s) (LineNo s) w) := by
  refine ret_of_G Tryz.func49 rfl Tryz.ntmps49 rfl ?_
  simp only [argEnv]
  refine rn ?_
  refine sAl tb (fun W1 hb1 hs1 hx1 => ?_)
  refine rn ?_
  refine sCall c87 (given_ok W1 s hs (hT.to hx1)) ?_
  rintro _ W2 ⟨hx2, ⟨L, v, hL, rfl, ho2⟩ | ⟨hL, a, e, he, rfl⟩⟩
  rotate_left
  · have hb2 := hb1.to hx2
    have hx02 := hx1.trans hx2
    refine rn ?_
    refine sAl tb (fun W3 hb3 hs3 hx3 => ?_)
    refine rn ?_
    refine sAl tb (fun W4 hb4 hs4 hx4 => ?_)
    refine rn ?_
    refine sSt tb (fun W5 hb5 hw5 => ?_) (vs := linZ) (hv := rfl) (h1 := linZ_one) (hb := hb3.to hx4)
    refine rn ?_
    refine sSt tb (fun W6 hb6 hw6 => ?_) (vs := [.int .i64 a, .int .i64 e]) (hv := rfl) (hb := hb4.wr hw5 (by omega))
    have hz2 := hx2.size
    have hb6' : Bx W6 w.heap.size linZ := (((hb2.to hx3).to hx4).wr hw5 (by omega)).wr hw6 (by omega)
    have hx6 : Ext w W6 := (((hx02.trans hx3).trans hx4).wr hw5 (by omega)).wr hw6 (by omega)
    clear hb1 hb2 hb3 hb4 hb5
    refine rn ?_
    refine G.cond rfl (fun hc => ?_) (fun hc => ?_)
    · have hbd := hb6.to (Ext.drew W6)
      have hbz := hb6'.to (Ext.drew W6)
      have hx7 := hx6.trans (Ext.drew W6)
      refine rn ?_
      refine G.regionM [(0, true), (1, true), (2, true), (3, true), (4, true), (5, false), (6, true), (7, true)] (fun w' => Bx w' W3.heap.size [.int .i64 a, .int .i64 e]) (by kernel_rfl) (by kernel_rfl) rfl mixed (hbd) rfl ?_
      refine rd ?_
      refine GM.read (fun w' hS => Step.build tb rfl rfl rfl rfl rfl rfl rfl rfl rfl ⟨rfl, rfl⟩) rfl rfl ?_
      refine rd ?_
      refine GM.read (fun w' hS => Step.load1 tb rfl (Op1.of rfl (by first | exact fun _ => rfl | exact fun h => h | exact fun h => bL h | exact fun h => bL (bL h) | exact fun h => bL (bL (bL h)))) rfl rfl (fun _ => Bx.c0 hS rfl) rfl ⟨rfl, rfl⟩) rfl rfl ?_
      refine rd ?_
      refine GM.read (fun w' hS => Step.load1 tb rfl (Op1.of rfl (by first | exact fun _ => rfl | exact fun h => h | exact fun h => bL h | exact fun h => bL (bL h) | exact fun h => bL (bL (bL h)))) rfl rfl (fun _ => Bx.ci hS (by exact rfl)) rfl ⟨rfl, rfl⟩) rfl rfl ?_
      refine rd ?_
      refine GM.eff (Step.store0 (vs := linZ) tb rfl (Op1.of rfl (by first | exact fun _ => rfl | exact fun h => h | exact fun h => bL h | exact fun h => bL (bL h) | exact fun h => bL (bL (bL h)))) (Op1.of rfl (by first | exact fun _ => rfl | exact fun h => h | exact fun h => bL h | exact fun h => bL (bL h) | exact fun h => bL (bL (bL h)))) rfl rfl rfl linZ_one hbz rfl ?_)
      intro W8 hb8 hw8
      refine ⟨hbd.wr hw8 (by omega), ?_⟩
      refine rd ?_
      refine GM.nil ?_
      refine rn ?_
      refine G.retCTT rfl rfl (RV.agg tb hb8.cells) ?_ rfl rfl rfl rfl
      exact ⟨hx7.wr hw8 (by omega), .inr ⟨.inl hL, a, e, he, rfl⟩⟩
    · exfalso
      apply he
      simpa using hc
  · have hb2 := hb1.to hx2
    have hx02 := hx1.trans hx2
    have hz1 := hx1.size
    have hz2 := hx2.size
    have hsl := sampleP_len hL
    have hnl := hn L hL
    refine rn ?_
    refine sAl tb (fun W3 hb3 hs3 hx3 => ?_)
    refine rn ?_
    refine sAl tb (fun W4 hb4 hs4 hx4 => ?_)
    refine rn ?_
    refine sSt tb (fun W5 hb5 hw5 => ?_) (vs := linC (.slice none 0 0) L.val L.time) (hv := rfl) (hb := hb3.to hx4) (h1 := by
      intro y hy
      simp only [linC, List.mem_cons, List.not_mem_nil, or_false] at hy
      rcases hy with rfl | rfl | rfl | rfl <;> rfl)
    refine rn ?_
    refine sSt tb (fun W6 hb6 hw6 => ?_) (vs := [.int .i64 0, .int .i64 0]) (hv := rfl) (hb := hb4.wr hw5 (by omega))
    have hbz6 : Bx W6 w.heap.size linZ := (((hb2.to hx3).to hx4).wr hw5 (by omega)).wr hw6 (by omega)
    have hbx6 : Bx W6 W2.heap.size (linC (.slice none 0 0) L.val L.time) := hb5.wr hw6 (by omega)
    have hx26 : Ext W2 W6 := ((hx3.trans hx4).wr hw5 (by omega)).wr hw6 (by omega)
    have hx6 : Ext w W6 := hx02.trans hx26
    have ho6 := ho2.to hx26
    have hz6 := hx26.size
    have hz36 : W3.heap.size < W6.heap.size := hb6.lt
    clear hb1 hb2 hb3 hb4 hb5 hw5 hw6 hx3 hx4 ho2
    have hv6 := ho6.sli
    refine rn ?_
    refine GL.cons (Step.sliceVl tb 1 rfl (Op1.of rfl (by first | exact fun _ => rfl | exact fun h => h | exact fun h => bL h | exact fun h => bL (bL h) | exact fun h => bL (bL (bL h)))) (Op1.of rfl (by first | exact fun _ => rfl | exact fun h => h | exact fun h => bL h | exact fun h => bL (bL h) | exact fun h => bL (bL (bL h)))) rfl rfl (fun _ => ⟨_, hv6⟩) (fun _ => ⟨rfl, by simp⟩) rfl ?_)
    have hsub : Sli W6 (subS v 2 1 (List.map Lab.labC ((nameB, L.name) :: L.labs)).length) 2 (L.labs.map Lab.labC) := by
      have := Sli.sub hv6 (l := 1) (h := (List.map Lab.labC ((nameB, L.name) :: L.labs)).length) (by simp) (Nat.le_refl _)
      simpa [List.take_of_length_le] using this
    generalize subS v 2 1 (List.map Lab.labC ((nameB, L.name) :: L.labs)).length = v1 at hsub ⊢
    refine rn ?_
    refine (G.loop (fun j : Nat => [(0, none, S s), (2, none, ptr w.heap.size), (5, none, ptr W2.heap.size), (6, none, v), (27, none, v1), (28, none, .int .i64 (L.labs.map Lab.labC).length), (29, none, .int .i64 j)]) (fun j W => Ext W6 W ∧ j ≤ L.labs.length ∧ ∀ m x, m < j → L.labs[m]? = some x → x.1 ≠ nameB) (fun j => L.labs.length - j) 0 (by repeat (first | exact Sub.nil _ | refine Sub.cons rfl ?_)) ⟨Ext.refl _, by omega, by omega⟩ ?_)
    rintro j W ⟨hx, hj, hno⟩
    have hln : (L.labs.map Lab.labC).length = L.labs.length := by simp
    have hsubW := hsub.to hx
    have hx0 := hx6.trans hx
    have hbzW := hbz6.to hx
    have hzW := hx.size
    refine rn ?_
    first | refine G.condD rfl (fun hc => ?_) (fun hc => ?_) | refine G.condN rfl (fun hc => ?_) (fun hc => ?_) | refine G.cond rfl (fun hc => ?_) (fun hc => ?_)
    · have hjl : j < L.labs.length := by omega
      obtain ⟨y, hy⟩ : ∃ y, L.labs[j]? = some y := ⟨_, List.getElem?_eq_getElem hjl⟩
      have hget : (L.labs.map Lab.labC)[j]? = some (Lab.labC y) := by simp [hy]
      try (first | refine gl tb ?_ | refine gg tb ?_ | refine ll tb ?_ | refine lg tb ?_); repeat ((first | refine G.condT rfl ?_ | refine G.condF rfl ?_ | refine sFa tb ?_ | refine sLd tb ?_ | refine sLa tb ?_ | refine sLen tb ?_ | refine sFd tb ?_ | refine sBd tb ?_ | refine sIa tb j ?_); try (first | refine gl tb ?_ | refine gg tb ?_ | refine ll tb ?_ | refine lg tb ?_))
      refine sAl tb (fun W7 hb7 hs7 hx7 => ?_)
      refine sSt tb (fun W8 hb8 hw8 => ?_) (vs := Lab.labC y) (hv := rfl) (h1 := by
        intro z hz
        simp only [Lab.labC, List.mem_cons, List.not_mem_nil, or_false] at hz
        rcases hz with rfl | rfl <;> rfl)
      have hx8 : Ext W W8 := hx7.wr hw8 (by omega)
      have hbz8 := hbzW.to hx8
      have hx08 := hx0.trans hx8
      unfold Lab.labC at hb8
      refine rn ?_
      first | refine G.condD rfl (fun hc => ?_) (fun hc => ?_) | refine G.condN rfl (fun hc => ?_) (fun hc => ?_) | refine G.cond rfl (fun hc => ?_) (fun hc => ?_)
      · refine rn ?_
        refine sSt tb (fun W9 hb9 hw9 => ?_) (vs := linZ) (hv := rfl) (h1 := linZ_one)
        refine rn ?_
        refine G.retCTT rfl rfl (RV.agg tb hb9.cells) ?_ rfl rfl rfl rfl
        exact ⟨hx08.wr hw9 (by omega), .inr ⟨.inr ⟨L, hL, .inl ⟨y, List.mem_of_getElem? hy, hc⟩⟩, 0, 2, by decide, rfl⟩⟩
      · have hne := hc
        refine rn ?_
        refine sAd tb ?_
        refine rn ?_
        refine G.lp (x := j) (j + 1) (by repeat (first | exact Sub.nil _ | refine Sub.cons rfl ?_)) ⟨hx.trans hx8, by omega, fun m x hm hxm => ?_⟩ (by omega)
        by_cases e : m = j
        · subst e
          rw [hy] at hxm
          cases hxm
          exact hne
        · exact hno m x (by omega) hxm
    · have hall : ∀ x ∈ L.labs, x.1 ≠ nameB := by
        intro x hx
        obtain ⟨m, hm⟩ := List.getElem?_of_mem hx
        exact hno m x (by have := (List.getElem?_eq_some_iff.1 hm).1; omega) hm
      have hoW := ho6.to hx
      have hbxW := hbx6.to hx
      have hlz : ∀ x ∈ (nameB, L.name) :: L.labs, Lab.LabSz x := by
        intro x hx
        have hnl2 := hsl.2.2
        rcases List.mem_cons.1 hx with rfl | hx
        · exact ⟨by show nameB.length ≤ _; decide, by show L.name.length ≤ _; omega⟩
        · have := hsl.2.1 x hx
          exact ⟨by show x.1.length ≤ _; omega, by show x.2.length ≤ _; omega⟩
      refine rn ?_
      refine sCall c88 (Lab.new_ok v ((nameB, L.name) :: L.labs) W hoW.sli (by simp only [List.length_cons]; omega) hlz (hT.to hx0)) ?_
      rintro _ W7 ⟨st, e, out, rfl, hnew, ho7, hx7⟩
      have hx07 := hx0.trans hx7
      have hbz7 := hbzW.to hx7
      have hbx7 := hbxW.to hx7
      refine rn ?_
      refine G.cond rfl (fun hc => ?_) (fun hc => ?_)
      · have he : e ≠ 0 := by simpa using hc
        refine rn ?_
        refine sSt tb (fun W9 hb9 hw9 => ?_) (vs := linZ) (hv := rfl) (h1 := linZ_one)
        refine rn ?_
        refine G.retCTT rfl rfl (RV.agg tb hb9.cells) ?_ rfl rfl rfl rfl
        exact ⟨hx07.wr hw9 (by omega), .inr ⟨.inr ⟨L, hL, .inr ⟨hall, e, out, he, hnew⟩⟩, 0, e, he, rfl⟩⟩
      · have he : e = 0 := by simpa using hc
        subst he
        unfold linC at hbx7
        have hcl := ho7.cells
        have hone : st.oneCell' = true := ho7.sli.one st (List.mem_singleton.2 rfl)
        refine rn ?_
        refine sSf tb (fun W8 hb8 hw8 => ?_) (vs := [st]) (hv := hcl) (h1 := by
          intro z hz
          obtain rfl := List.mem_singleton.1 hz
          exact hone)
        have hb8 : Bx W8 W2.heap.size (linC st L.val L.time) := hb8
        have ho8 : Lab.LO W8 W.heap.size st out := ho7.kp hw8.kp (by omega)
        have hbz8 := hbz7.wr hw8 (by omega)
        unfold linC at hb8
        refine rn ?_
        refine sSt tb (fun W9 hb9 hw9 => ?_) (vs := linC st L.val L.time) (hv := rfl) (h1 := by
          intro z hz
          simp only [linC, List.mem_cons, List.not_mem_nil, or_false] at hz
          rcases hz with rfl | rfl | rfl | rfl
          · exact hone
          · rfl
          · rfl
          · rfl)
        have ho9 : Lab.LO W9 W.heap.size st out := ho8.kp hw9.kp (by omega)
        have hx9 : Ext w W9 := (hx07.wr hw8 (by omega)).wr hw9 (by omega)
        refine rn ?_
        refine G.retCTT rfl rfl (RV.agg tb hb9.cells) ?_ rfl rfl rfl rfl
        exact ⟨hx9, .inl ⟨L, st, out, ⟨hL, hall, hnew⟩, rfl, ho9.mono (by have := hx0.size; omega)⟩⟩
end Go.Proofs.YtcngoccnfmhhnaaGreatDoor
end
section
open Go Go.Vg Go.RowKit Go.Proofs Go.Proofs.YtcngoccnfmhhnaaGreatDoor
namespace Go.Proofs.YtcngoccnfmhhnaaGreatDoor
open Go.Ex

theorem linC_one {v : Value} {x : Nat} {t : Option Int} (h : v.oneCell' = true) : ∀ z ∈ linC v x t, z.oneCell' = true := by
  intro z hz
  simp only [linC, List.mem_cons, List.not_mem_nil, or_false] at hz
  rcases hz with rfl | rfl | rfl | rfl
  · exact h
  · rfl
  · rfl
  · rfl
set_option maxHeartbeats 4000000 in
theorem readLine_ok (w : World) (s : List UInt8) (hs : s.length ≤ 1000000000) (hT : Tabs w) (hn : ∀ t L, t <+: s → sampleP Num.intP t = some L → L.labs.length ≤ 999) : Ret Tryz.prog 24 ⟨[S s]⟩ w (WholeS (fun L out => nlI s < 0 ∧ LineIs s L out) (0 ≤ nlI s ∨ LineNo s) w) := by
  refine ret_of_G Tryz.func24 rfl Tryz.ntmps24 rfl ?_
  simp only [argEnv]
  refine rn ?_
  refine sAl tb (fun W1 hb1 hs1 hx1 => ?_)
  refine rn ?_
  refine sCall c48 (cut_ok s W1 hs) ?_
  rintro _ W2 ⟨rfl, hx2⟩
  have hb2 := hb1.to hx2
  have hx02 := hx1.trans hx2
  unfold cutV
  by_cases h0 : 0 ≤ nlI s
  · rw [if_pos h0]
    have htl : (s.take (nlI s).toNat).length ≤ 1000000000 := by rw [List.length_take]; omega
    have hnt := fun L hL => hn (s.take (nlI s).toNat) L (List.take_prefix _ _) hL
    generalize s.take (nlI s).toNat = t at htl hnt ⊢
    refine rn ?_
    refine sCall c49 (whole_ok W2 t htl (hT.to hx02) hnt) ?_
    rintro r W3 ⟨hx3, hr⟩
    obtain ⟨cs, a, e, hone, hcs, rfl, hez⟩ : ∃ (cs : List Value) (a e : Int), (∀ y ∈ cs, y.oneCell' = true) ∧ cs.length = 4 ∧ r = .tuple ⟨[.agg ⟨cs⟩, .int .i64 a, .int .i64 e]⟩ ∧ (e ≠ 0 → cs = linZ) := by
      rcases hr with ⟨L, v, out, _, rfl, ho⟩ | ⟨_, a, e, he, rfl⟩
      · exact ⟨_, 0, 0, linC_one (ho.sli.one v (List.mem_singleton.2 rfl)), rfl, rfl, fun h => absurd rfl h⟩
      · exact ⟨_, a, e, linZ_one, rfl, rfl, fun _ => rfl⟩
    have hb3 := hb2.to hx3
    have hx03 := hx02.trans hx3
    have hz3 := hx03.size
    have hl3 := hb3.lt
    refine rn ?_
    refine sAl tb (fun W4 hb4 hs4 hx4 => ?_)
    refine sSt tb (fun W5 hb5 hw5 => ?_) (vs := cs) (hv := rfl) (hs := hcs) (h1 := hone)
    have hb05 := (hb3.to hx4).wr hw5 (by omega)
    have hx5 : Ext w W5 := (hx03.trans hx4).wr hw5 (by omega)
    refine rn ?_
    refine G.cond rfl (fun hc => ?_) (fun hc => ?_)
    · refine rn ?_
      refine sSt tb (fun W6 hb6 hw6 => ?_) (vs := linZ) (hv := rfl) (h1 := linZ_one)
      refine rn ?_
      refine G.retCTT rfl rfl (RV.agg tb hb6.cells) ?_ rfl rfl rfl rfl
      exact ⟨hx5.wr hw6 (by omega), .inr ⟨.inl h0, t.length, 8, by decide, rfl⟩⟩
    · have he : e ≠ 0 := by
        intro he
        subst he
        simp at hc
      have hcz := hez he
      subst hcz
      refine rn ?_
      refine sSt tb (fun W6 hb6 hw6 => ?_) (vs := linZ) (hv := rfl) (h1 := linZ_one)
      refine rn ?_
      refine G.retCTT rfl rfl (RV.agg tb hb6.cells) ?_ rfl rfl rfl rfl
      exact ⟨hx5.wr hw6 (by omega), .inr ⟨.inl h0, a, e, he, rfl⟩⟩
  · rw [if_neg h0]
    refine rn ?_
    refine sCall c49 (whole_ok W2 s hs (hT.to hx02) (fun L hL => hn s L (List.prefix_refl _) hL)) ?_
    rintro r W3 ⟨hx3, hr⟩
    have hb3 := hb2.to hx3
    have hx03 := hx02.trans hx3
    have hz3 := hx03.size
    have hz2 := hx02.size
    have hl3 := hb3.lt
    rcases hr with ⟨L, v, out, hok, rfl, ho⟩ | ⟨hno, a, e, he, rfl⟩
    · have hone : v.oneCell' = true := ho.sli.one v (List.mem_singleton.2 rfl)
      refine rn ?_
      refine sAl tb (fun W4 hb4 hs4 hx4 => ?_)
      refine sSt tb (fun W5 hb5 hw5 => ?_) (vs := linC v L.val L.time) (hv := rfl) (h1 := linC_one hone)
      have hb05 := (hb3.to hx4).wr hw5 (by omega)
      have hx5 : Ext w W5 := (hx03.trans hx4).wr hw5 (by omega)
      have ho5 : Lab.LO W5 W2.heap.size v out := (ho.to hx4).wr2 hw5 (fun e => by have := (ho.lt _ e.symm).2; omega)
      unfold linC at hb5
      refine rn ?_
      refine sSt tb (fun W6 hb6 hw6 => ?_) (vs := linC v L.val L.time) (hv := rfl) (h1 := linC_one hone)
      have ho6 : Lab.LO W6 W2.heap.size v out := ho5.kp hw6.kp (by have := hb2.lt; omega)
      refine rn ?_
      refine G.retCTT rfl rfl (RV.agg tb hb6.cells) ?_ rfl rfl rfl rfl
      exact ⟨hx5.wr hw6 (by omega), .inl ⟨L, v, out, ⟨by omega, hok⟩, rfl, ho6.mono (by omega)⟩⟩
    · refine rn ?_
      refine sAl tb (fun W4 hb4 hs4 hx4 => ?_)
      refine sSt tb (fun W5 hb5 hw5 => ?_) (vs := linZ) (hv := rfl) (h1 := linZ_one)
      have hb05 := (hb3.to hx4).wr hw5 (by omega)
      have hx5 : Ext w W5 := (hx03.trans hx4).wr hw5 (by omega)
      unfold linZ at hb5
      refine rn ?_
      refine sSt tb (fun W6 hb6 hw6 => ?_) (vs := linZ) (hv := rfl) (h1 := linZ_one)
      refine rn ?_
      refine G.retCTT rfl rfl (RV.agg tb hb6.cells) ?_ rfl rfl rfl rfl
      exact ⟨hx5.wr hw6 (by omega), .inr ⟨.inr hno, a, e, he, rfl⟩⟩
end Go.Proofs.YtcngoccnfmhhnaaGreatDoor
end
section
namespace Go.Ex

def linesGo : List UInt8 → List UInt8 → List (List UInt8)
  | cur, [] => if cur = [] then [] else [cur]
  | cur, c :: l => if c = 10 then cur :: linesGo [] l else linesGo (cur ++ [c]) l
/-- a body's lines -/
def linesP (s : List UInt8) : List (List UInt8) := linesGo [] s
theorem linesGo_no : ∀ (l cur : List UInt8), (∀ k : Nat, l[k]? ≠ some 10) → linesGo cur l = if cur ++ l = [] then [] else [cur ++ l]
  | [], cur, _ => by simp [linesGo]
  | c :: l, cur, h => by
    have h0 : c ≠ 10 := by have := h 0; simpa using this
    rw [linesGo, if_neg h0, linesGo_no l (cur ++ [c]) fun k => by have := h (k + 1); simpa using this]
    simp
theorem linesGo_cut : ∀ (a cur b : List UInt8), (∀ k : Nat, a[k]? ≠ some 10) → linesGo cur (a ++ 10 :: b) = (cur ++ a) :: linesGo [] b
  | [], cur, b, _ => by simp [linesGo]
  | c :: a, cur, b, h => by
    have h0 : c ≠ 10 := by have := h 0; simpa using this
    rw [List.cons_append, linesGo, if_neg h0, linesGo_cut a (cur ++ [c]) b fun k => by have := h (k + 1); simpa using this]
    simp
theorem linesP_nil : linesP [] = [] := rfl
theorem linesP_cut {s : List UInt8} {i : Nat} (h : Lib.indexByte s 10 = i) : linesP s = s.take i :: linesP (s.drop (i + 1)) := by
  have h1 := Lib.indexByte_some h
  have hlt : i < s.length := (List.getElem?_eq_some_iff.1 h1.1).1
  have hg : s.getD i 0 = 10 := by rw [List.getD_eq_getElem?_getD, h1.1]; rfl
  have e : s = s.take i ++ 10 :: s.drop (i + 1) := by
    rw [← hg, ← drop_at hlt, List.take_append_drop]
  have := linesGo_cut (s.take i) [] (s.drop (i + 1)) (by
    intro k hk
    rw [List.getElem?_take] at hk
    split at hk
    · rename_i hki; exact h1.2 k hki hk
    · cases hk)
  rw [← e] at this
  unfold linesP
  simpa using this
theorem linesP_last {s : List UInt8} (h : Lib.indexByte s 10 < 0) (hne : s ≠ []) : linesP s = [s] := by
  have h1 : Lib.indexByte s 10 = -1 := by have := Lib.indexByte_ge s 10; omega
  unfold linesP
  rw [linesGo_no s [] (Lib.indexByte_none h1)]
  simp [hne]
theorem linesGo_len : ∀ (s cur : List UInt8), (linesGo cur s).length ≤ s.length + 1 ∧ ∀ x ∈ linesGo cur s, x.length ≤ cur.length + s.length
  | [], cur => by
    unfold linesGo
    split
    · simp
    · simp
  | c :: l, cur => by
    have h1 := linesGo_len l []
    have h2 := linesGo_len l (cur ++ [c])
    simp only [List.length_append, List.length_cons, List.length_nil] at h1 h2
    rw [linesGo]
    split
    · refine ⟨by simp only [List.length_cons]; omega, fun x hx => ?_⟩
      rcases List.mem_cons.1 hx with rfl | hx
      · omega
      · have := h1.2 x hx; simp only [List.length_cons]; omega
    · refine ⟨by simp only [List.length_cons]; omega, fun x hx => ?_⟩
      have := h2.2 x hx; simp only [List.length_cons]; omega
theorem linesP_len (s : List UInt8) : (linesP s).length ≤ s.length + 1 ∧ ∀ x ∈ linesP s, x.length ≤ s.length := by
  have h := linesGo_len s []
  exact ⟨h.1, fun x hx => by have := h.2 x hx; simpa using this⟩
end Go.Ex
end
section
namespace Go.Ex

theorem contains_bl (b : UInt8) : ([32, 9] : List UInt8).contains b = blB b := by
  unfold blB
  rw [Bool.eq_iff_iff]
  simp [← UInt8.toNat_inj]
theorem skipB_dw : ∀ l : List UInt8, l.dropWhile blB = skipB l
  | [] => rfl
  | c :: l => by
    have ih := skipB_dw l
    unfold skipB at ih ⊢
    cases h : blB c <;> simp [List.dropWhile, bls, h, ih]
theorem trimLeft_eq (s : List UInt8) : Lib.trimLeftS s [32, 9] = skipB s := by
  unfold Lib.trimLeftS
  rw [← skipB_dw]
  congr 1
  funext b
  exact contains_bl b
/-- without the blanks behind -/
def trimR (l : List UInt8) : List UInt8 := (skipB l.reverse).reverse
theorem trimRight_eq (s : List UInt8) : Lib.trimRightS s [32, 9] = trimR s := by
  unfold Lib.trimRightS trimR
  rw [← skipB_dw]
  congr 2
  funext b
  exact contains_bl b
/-- the text of a HELP -/
def unescP : List UInt8 → List UInt8
  | [] => []
  | [c] => [c]
  | c :: d :: l => if c = 92 ∧ (d = 92 ∨ d = 110) then (if d = 110 then 10 else d) :: unescP l else c :: unescP (d :: l)
def helpW : List UInt8 := [72, 69, 76, 80]
def typeW : List UInt8 := [84, 89, 80, 69]
def kindsL : List (List UInt8) := [[99, 111, 117, 110, 116, 101, 114], [103, 97, 117, 103, 101], [104, 105, 115, 116, 111, 103, 114, 97, 109], [115, 117, 109, 109, 97, 114, 121], [117, 110, 116, 121, 112, 101, 100]]
structure Said where
  word : List UInt8
  name : List UInt8
  rest : List UInt8
/-- what a remark says, behind its # -/
def saysP (metB : List UInt8 → Bool) (s : List UInt8) : Option Said :=
  if bls s = 0 then none else match tokP (skipB s) with
  | none => none
  | some (wd, l1) => if wd ≠ helpW ∧ wd ≠ typeW then none else if bls l1 = 0 then none else match nameP true (skipB l1) with
    | none => none
    | some (nm, l2) => if bls l2 = 0 ∧ l2 ≠ [] then none else if metB nm then some ⟨wd, nm, skipB l2⟩ else none
/-- is it taken? -/
def saidOk (x : Said) : Bool := if x.word = helpW then Lib.validD x.rest else kindsL.contains (trimR x.rest)
/-- what is known of a metric: name, kind, help -/
structure Fam where
  name : List UInt8
  kind : List UInt8
  help : List UInt8
/-- what is said is put down -/
def famSet (x : Said) (f : Fam) : Fam := if x.word = helpW then { f with help := unescP x.rest } else { f with kind := trimR x.rest }
def famPut : List Fam → Said → List Fam
  | [], x => [famSet x ⟨x.name, [], []⟩]
  | f :: l, x => if f.name = x.name then famSet x f :: l else f :: famPut l x
def famAt : List Fam → List UInt8 → Nat
  | [], _ => 0
  | f :: l, n => if f.name = n then 0 else famAt l n + 1
def fam0 (n : List UInt8) : Fam := ⟨n, [], []⟩
/-- with room for a metric -/
def fam1 (l : List Fam) (n : List UInt8) : List Fam := if famAt l n < l.length then l else l ++ [fam0 n]
theorem famAt_le : ∀ (l : List Fam) (n : List UInt8), famAt l n ≤ l.length
  | [], _ => Nat.le_refl _
  | f :: l, n => by
    have := famAt_le l n
    simp only [famAt, List.length_cons]
    split <;> omega
theorem fam1_lt (l : List Fam) (n : List UInt8) : famAt l n < (fam1 l n).length := by
  unfold fam1
  split
  · assumption
  · have := famAt_le l n
    rw [List.length_append, List.length_cons, List.length_nil]; omega
theorem fam1_cons {f : Fam} {l : List Fam} {n : List UInt8} (h : f.name ≠ n) : fam1 (f :: l) n = f :: fam1 l n := by
  unfold fam1
  simp only [famAt, if_neg h, List.length_cons]
  by_cases h1 : famAt l n < l.length
  · rw [if_pos h1, if_pos (by omega)]
  · rw [if_neg h1, if_neg (by omega)]; rfl
theorem famPut_set : ∀ (l : List Fam) (x : Said), famPut l x = (fam1 l x.name).set (famAt l x.name) (famSet x ((fam1 l x.name).getD (famAt l x.name) (fam0 [])))
  | [], x => rfl
  | f :: l, x => by
    by_cases h : f.name = x.name
    · have h0 : famAt (f :: l) x.name = 0 := by simp [famAt, h]
      have h1 : fam1 (f :: l) x.name = f :: l := by unfold fam1; rw [h0, if_pos (by simp)]
      rw [h1, h0]
      simp [famPut, h]
    · have h0 : famAt (f :: l) x.name = famAt l x.name + 1 := by simp [famAt, h]
      rw [fam1_cons h, h0]
      simp only [famPut, if_neg h, List.set_cons_succ, List.getD_cons_succ]
      rw [famPut_set l x]
theorem famAt_app : ∀ (l t : List Fam) (m : List UInt8), famAt l m < l.length → famAt (l ++ t) m = famAt l m
  | [], _, _, h => by simp at h
  | f :: l, t, m, h => by
    by_cases h1 : f.name = m
    · simp [famAt, h1]
    · simp only [List.cons_append, famAt, if_neg h1]
      rw [famAt_app l t m (by simpa [famAt, h1] using h)]
theorem famAt_new : ∀ (l : List Fam) (n m : List UInt8), famAt l m = l.length → famAt (l ++ [fam0 n]) m = if m = n then l.length else l.length + 1
  | [], n, m, _ => by
    simp only [List.nil_append, famAt, List.length_nil, fam0]
    by_cases h : n = m
    · subst h; simp
    · rw [if_neg h, if_neg (fun e => h e.symm)]
  | f :: l, n, m, h => by
    have hf : ¬ f.name = m := fun e => by simp [famAt, e] at h
    have hl : famAt l m = l.length := by simpa [famAt, hf] using h
    simp only [List.cons_append, famAt, if_neg hf, List.length_cons]
    rw [famAt_new l n m hl]
    split <;> rfl
theorem famAt_set : ∀ (l : List Fam) (i : Nat) (f : Fam) (m : List UInt8), (∀ g, l[i]? = some g → g.name = f.name) → famAt (l.set i f) m = famAt l m
  | [], _, _, _, _ => rfl
  | g :: l, 0, f, m, h => by
    have := h g rfl
    simp only [List.set_cons_zero, famAt, this]
  | g :: l, i + 1, f, m, h => by
    have := famAt_set l i f m (fun g hg => h g (by simpa using hg))
    simp only [List.set_cons_succ, famAt, this]
theorem famSet_name (x : Said) (f : Fam) : (famSet x f).name = f.name := by
  unfold famSet; split <;> rfl
theorem famAt_put (l : List Fam) (x : Said) (m : List UInt8) : famAt (famPut l x) m = famAt (fam1 l x.name) m ∧ (famPut l x).length = (fam1 l x.name).length := by
  rw [famPut_set]
  refine ⟨famAt_set _ _ _ _ fun g hg => ?_, by rw [List.length_set]⟩
  rw [famSet_name, List.getD_eq_getElem?_getD, hg]; rfl
end Go.Ex
end
section
namespace Go.Proofs
open Go.Shelf
def Tryz.lays161_ren : Go.Shelf.Ren := ⟨fun | 161 => 26 | 231 => 53 | 227 => 54 | 233 => 55 | 235 => 56 | 228 => 90 | 197 => 91 | 151 => 92 | 260 => 122 | 152 => 123 | 137 => 148 | 119 => 149 | 224 => 84 | 225 => 138 | 217 => 137 | 266 => 157 | n => n, fun | 9 => 9 | 4 => 4 | 3 => 3 | 5 => 5 | 117 => 102 | 116 => 101 | 0 => 0 | 124 => 105 | 105 => 134 | 21 => 21 | 119 => 140 | 46 => 130 | 139 => 143 | 138 => 142 | n => n, fun | 3 => 2 | 4 => 3 | n => n⟩
theorem Tryz.lays161 : Go.Proofs.Lays.n161 Tryz.prog Tryz.lays161_ren := {
  mixed := by kernel_rfl
  f119 := Tryz.func149.trans (congrArg some (by kernel_rfl))
  f137 := Tryz.func148.trans (congrArg some (by kernel_rfl))
  f151 := Tryz.func92.trans (congrArg some (by kernel_rfl))
  f152 := Tryz.func123.trans (congrArg some (by kernel_rfl))
  f161 := Tryz.func26.trans (congrArg some (by kernel_rfl))
  f197 := Tryz.func91.trans (congrArg some (by kernel_rfl))
  f217 := Tryz.func137.trans (congrArg some (by kernel_rfl))
  f224 := Tryz.func84.trans (congrArg some (by kernel_rfl))
  f225 := Tryz.func138.trans (congrArg some (by kernel_rfl))
  f227 := Tryz.func54.trans (congrArg some (by kernel_rfl))
  f228 := Tryz.func90.trans (congrArg some (by kernel_rfl))
  f231 := Tryz.func53.trans (congrArg some (by kernel_rfl))
  f233 := Tryz.func55.trans (congrArg some (by kernel_rfl))
  f235 := Tryz.func56.trans (congrArg some (by kernel_rfl))
  f260 := Tryz.func122.trans (congrArg some (by kernel_rfl))
  f266 := Tryz.func157.trans (congrArg some (by kernel_rfl))
  t0 := Tryz.underlying0
  a0 := Tryz.isAgg0
  z0 := Tryz.sizeOf0
  v0 := Tryz.zeroValue0
  t3 := Tryz.underlying3
  a3 := Tryz.isAgg3
  z3 := Tryz.sizeOf3
  v3 := Tryz.zeroValue3
  t4 := Tryz.underlying4
  a4 := Tryz.isAgg4
  z4 := Tryz.sizeOf4
  v4 := Tryz.zeroValue4
  t5 := Tryz.underlying5
  a5 := Tryz.isAgg5
  z5 := Tryz.sizeOf5
  v5 := Tryz.zeroValue5
  t9 := Tryz.underlying9
  a9 := Tryz.isAgg9
  z9 := Tryz.sizeOf9
  v9 := Tryz.zeroValue9
  t21 := Tryz.underlying21
  a21 := Tryz.isAgg21
  z21 := Tryz.sizeOf21
  v21 := Tryz.zeroValue21
  t46 := Tryz.underlying130
  a46 := Tryz.isAgg130
  z46 := Tryz.sizeOf130
  v46 := Tryz.zeroValue130
  t105 := Tryz.underlying134
  a105 := Tryz.isAgg134
  z105 := Tryz.sizeOf134
  v105 := Tryz.zeroValue134
  t116 := Tryz.underlying101
  a116 := Tryz.isAgg101
  z116 := Tryz.sizeOf101
  t117 := Tryz.underlying102
  a117 := Tryz.isAgg102
  z117 := Tryz.sizeOf102
  v117 := Tryz.zeroValue102
  t119 := Tryz.underlying140
  a119 := Tryz.isAgg140
  z119 := Tryz.sizeOf140
  t124 := Tryz.underlying105
  a124 := Tryz.isAgg105
  z124 := Tryz.sizeOf105
  v124 := Tryz.zeroValue105
  t138 := Tryz.underlying142
  a138 := Tryz.isAgg142
  z138 := Tryz.sizeOf142
  v138 := Tryz.zeroValue142
  t139 := Tryz.underlying143
  a139 := Tryz.isAgg143
  z139 := Tryz.sizeOf143
  v139 := Tryz.zeroValue143
  g3 := by kernel_rfl
  g4 := by kernel_rfl }
def Tryz.lays162_ren : Go.Shelf.Ren := ⟨fun | 162 => 64 | 232 => 97 | 227 => 54 | 234 => 98 | 236 => 99 | 228 => 90 | 271 => 124 | 151 => 92 | 120 => 150 | 197 => 91 | 152 => 123 | 260 => 122 | 137 => 148 | 119 => 149 | 224 => 84 | 225 => 138 | 217 => 137 | 266 => 157 | n => n, fun | 9 => 9 | 4 => 4 | 3 => 3 | 5 => 5 | 117 => 102 | 116 => 101 | 0 => 0 | 124 => 105 | 21 => 21 | 105 => 134 | 46 => 130 | 119 => 140 | 139 => 143 | 138 => 142 | n => n, fun | 3 => 2 | 4 => 3 | n => n⟩
theorem Tryz.lays162 : Go.Proofs.Lays.n162 Tryz.prog Tryz.lays162_ren := {
  mixed := by kernel_rfl
  f119 := Tryz.func149.trans (congrArg some (by kernel_rfl))
  f120 := Tryz.func150.trans (congrArg some (by kernel_rfl))
  f137 := Tryz.func148.trans (congrArg some (by kernel_rfl))
  f151 := Tryz.func92.trans (congrArg some (by kernel_rfl))
  f152 := Tryz.func123.trans (congrArg some (by kernel_rfl))
  f162 := Tryz.func64.trans (congrArg some (by kernel_rfl))
  f197 := Tryz.func91.trans (congrArg some (by kernel_rfl))
  f217 := Tryz.func137.trans (congrArg some (by kernel_rfl))
  f224 := Tryz.func84.trans (congrArg some (by kernel_rfl))
  f225 := Tryz.func138.trans (congrArg some (by kernel_rfl))
  f227 := Tryz.func54.trans (congrArg some (by kernel_rfl))
  f228 := Tryz.func90.trans (congrArg some (by kernel_rfl))
  f232 := Tryz.func97.trans (congrArg some (by kernel_rfl))
  f234 := Tryz.func98.trans (congrArg some (by kernel_rfl))
  f236 := Tryz.func99.trans (congrArg some (by kernel_rfl))
  f260 := Tryz.func122.trans (congrArg some (by kernel_rfl))
  f266 := Tryz.func157.trans (congrArg some (by kernel_rfl))
  f271 := Tryz.func124.trans (congrArg some (by kernel_rfl))
  t0 := Tryz.underlying0
  a0 := Tryz.isAgg0
  z0 := Tryz.sizeOf0
  v0 := Tryz.zeroValue0
  t3 := Tryz.underlying3
  a3 := Tryz.isAgg3
  z3 := Tryz.sizeOf3
  v3 := Tryz.zeroValue3
  t4 := Tryz.underlying4
  a4 := Tryz.isAgg4
  z4 := Tryz.sizeOf4
  v4 := Tryz.zeroValue4
  t5 := Tryz.underlying5
  a5 := Tryz.isAgg5
  z5 := Tryz.sizeOf5
  v5 := Tryz.zeroValue5
  t9 := Tryz.underlying9
  a9 := Tryz.isAgg9
  z9 := Tryz.sizeOf9
  v9 := Tryz.zeroValue9
  t21 := Tryz.underlying21
  a21 := Tryz.isAgg21
  z21 := Tryz.sizeOf21
  v21 := Tryz.zeroValue21
  t46 := Tryz.underlying130
  a46 := Tryz.isAgg130
  z46 := Tryz.sizeOf130
  v46 := Tryz.zeroValue130
  t105 := Tryz.underlying134
  a105 := Tryz.isAgg134
  z105 := Tryz.sizeOf134
  v105 := Tryz.zeroValue134
  t116 := Tryz.underlying101
  a116 := Tryz.isAgg101
  z116 := Tryz.sizeOf101
  t117 := Tryz.underlying102
  a117 := Tryz.isAgg102
  z117 := Tryz.sizeOf102
  v117 := Tryz.zeroValue102
  t119 := Tryz.underlying140
  a119 := Tryz.isAgg140
  z119 := Tryz.sizeOf140
  t124 := Tryz.underlying105
  a124 := Tryz.isAgg105
  z124 := Tryz.sizeOf105
  v124 := Tryz.zeroValue105
  t138 := Tryz.underlying142
  a138 := Tryz.isAgg142
  z138 := Tryz.sizeOf142
  v138 := Tryz.zeroValue142
  t139 := Tryz.underlying143
  a139 := Tryz.isAgg143
  z139 := Tryz.sizeOf143
  v139 := Tryz.zeroValue143
  g3 := by kernel_rfl
  g4 := by kernel_rfl }
end Go.Proofs
end
section
open Go Go.Vg Go.RowKit Go.Proofs Go.Proofs.YtcngoccnfmhhnaaGreatDoor
namespace Go.Proofs.YtcngoccnfmhhnaaGreatDoor
open Go.Ex

theorem ascB : ∀ (j : Nat) b, ([32, 9] : List UInt8)[j]? = some b → b.toNat < 128
  | 0, b, h => by simp at h; subst h; decide
  | 1, b, h => by simp at h; subst h; decide
  | j + 2, b, h => by simp at h
theorem zero101 : ∀ w, (zeroValue 101).run Tryz.prog w = .ok (.agg (Array.replicate 256 (.bool false))) w := fun w => (Tryz.zeroValue101 w).trans (by kernel_rfl)
theorem trimBL_ok (s : List UInt8) (w : World) : Ret Tryz.prog 26 ⟨[S s, S [32, 9]]⟩ w fun r w' => r = S (skipB s) ∧ Ext w w' := by
  by_cases h0 : s = []
  · subst h0
    exact Calls.mono (Any.strings_TrimLeft_empty Tryz.lays161 ⟨⟨[]⟩⟩ ⟨⟨[32, 9]⟩⟩ w (.inl rfl)) fun _ _ ⟨he, hw⟩ => ⟨_, he, rfl, by rw [hw]; exact Ext.refl _⟩
  · refine Calls.mono (Any.strings_TrimLeft_set Tryz.lays161 zero101 (by kernel_rfl) ⟨⟨s⟩⟩ ⟨⟨[32, 9]⟩⟩ w (by decide) (List.length_pos_iff.2 h0) (by decide) ascB) fun _ _ ⟨he, hw⟩ => ⟨_, he, ?_, by rw [hw]; exact (Ext.alloc _ _).trans (Ext.alloc _ _)⟩
    show Value.string ⟨(Lib.trimLeftS s [32, 9]).toArray⟩ = _
    rw [trimLeft_eq]; rfl
theorem trimBR_ok (s : List UInt8) (w : World) (hs : s.length ≤ 1000000000) : Ret Tryz.prog 64 ⟨[S s, S [32, 9]]⟩ w fun r w' => r = S (trimR s) ∧ Ext w w' := by
  by_cases h0 : s = []
  · subst h0
    exact Calls.mono (Any.strings_TrimRight_empty Tryz.lays162 ⟨⟨[]⟩⟩ ⟨⟨[32, 9]⟩⟩ w (.inl rfl)) fun _ _ ⟨he, hw⟩ => ⟨_, he, rfl, by rw [hw]; exact Ext.refl _⟩
  · refine Calls.mono (Any.strings_TrimRight_set Tryz.lays162 zero101 (by kernel_rfl) ⟨⟨s⟩⟩ ⟨⟨[32, 9]⟩⟩ w (by decide) (List.length_pos_iff.2 h0) (by show s.length ≤ _; omega) (by decide) ascB) fun _ _ ⟨he, hw⟩ => ⟨_, he, ?_, by rw [hw]; exact (Ext.alloc _ _).trans (Ext.alloc _ _)⟩
    show Value.string ⟨(Lib.trimRightS s [32, 9]).toArray⟩ = _
    rw [trimRight_eq]; rfl
abbrev metB (s : List UInt8) : Bool := Lab.namedB true s
theorem metric_ok (s : List UInt8) (w : World) (hs : s.length ≤ 1000000000) : Ret Tryz.prog 61 ⟨[S s]⟩ w fun r w' => r = .bool (metB s) ∧ Ext w w' := by
  refine ret_of_G Tryz.func61 rfl Tryz.ntmps61 rfl ?_
  simp only [argEnv]
  refine rn ?_
  refine sCall c95 (Lab.named_ok s true w (by omega)) ?_
  rintro _ W ⟨rfl, hW⟩
  obtain rfl : w = W := hW.symm
  refine rn ?_
  refine G.ret1 rfl rfl rfl rfl ?_
  exact ⟨rfl, Ext.refl _⟩
theorem kinds_ok (w : World) : Ret Tryz.prog 65 ⟨[]⟩ w fun r w' => Owns w' w.heap.size r 9 1 (kindsL.map fun x => [S x]) ∧ Ext w w' := by
  refine ret_of_G Tryz.func65 rfl Tryz.ntmps65 rfl ?_
  simp only [argEnv]
  refine rn ?_
  refine sBs' tb (kindsL.map fun x => [S x]) (fun us W2 ho2 hs2 hx2 => ?_) (hkl := by simp) (hfill := by kernel_rfl)
  refine rn ?_
  refine G.ret1 rfl rfl rfl rfl ?_
  exact ⟨ho2, hx2⟩
end Go.Proofs.YtcngoccnfmhhnaaGreatDoor
end
section
open Go Go.Vg Go.RowKit Go.Proofs Go.Proofs.YtcngoccnfmhhnaaGreatDoor
namespace Go.Proofs.YtcngoccnfmhhnaaGreatDoor
open Go.Ex

theorem unesc_one {s : List UInt8} {i : Nat} (hi : i < s.length) (h : ¬ (s.getD i 0 = 92 ∧ i + 1 < s.length ∧ (s.getD (i + 1) 0 = 92 ∨ s.getD (i + 1) 0 = 110))) : unescP (s.drop i) = s.getD i 0 :: unescP (s.drop (i + 1)) := by
  rw [drop_at hi]
  by_cases h1 : i + 1 < s.length
  · rw [drop_at h1]
    simp only [unescP]
    rw [if_neg (fun hx => h ⟨hx.1, h1, hx.2⟩)]
  · rw [drop_no h1]; rfl
theorem unesc_two {s : List UInt8} {i : Nat} (hi : i + 1 < s.length) (h : s.getD i 0 = 92 ∧ (s.getD (i + 1) 0 = 92 ∨ s.getD (i + 1) 0 = 110)) : unescP (s.drop i) = (if s.getD (i + 1) 0 = 110 then 10 else s.getD (i + 1) 0) :: unescP (s.drop (i + 1 + 1)) := by
  rw [drop_at (show i < s.length by omega), drop_at hi]
  simp only [unescP]
  rw [if_pos h]
set_option maxHeartbeats 1000000 in
theorem unescaped_ok (s : List UInt8) (w : World) (hs : s.length ≤ 1000000000) : Ret Tryz.prog 62 ⟨[S s]⟩ w fun r w' => r = S (unescP s) ∧ Ext w w' := by
  refine ret_of_G Tryz.func62 rfl Tryz.ntmps62 rfl ?_
  simp only [argEnv]
  refine rn ?_
  refine GL.cons (Step.allocE tb rfl rfl rfl rfl ?_)
  have hx1 : Ext w (w.alloc (.cells ⟨[.pointer none, .slice none 0 0]⟩ 92)) := Ext.alloc _ _
  have hb1 : Bld (w.alloc (.cells ⟨[.pointer none, .slice none 0 0]⟩ 92)) w.heap.size w.heap.size [] :=
    .inl ⟨Nat.le_refl _, _, heap_alloc_new _ _, World.ownsRow_nil _ _ _ _, by simp [Value.ownBlock]⟩
  generalize w.alloc (.cells ⟨[.pointer none, .slice none 0 0]⟩ 92) = W1 at hx1 hb1 ⊢
  refine rn ?_
  refine (G.loop (fun i : Nat => [(0, none, S s), (3, none, ptr w.heap.size), (4, none, .int .i64 i)]) (fun i W => Ext w W ∧ i ≤ s.length ∧ ∃ acc, Bld W w.heap.size w.heap.size acc ∧ acc.length ≤ i ∧ unescP s = acc ++ unescP (s.drop i)) (fun i => s.length - i) 0 (by repeat (first | exact Sub.nil _ | refine Sub.cons rfl ?_)) ⟨hx1, by omega, [], hb1, by simp, by simp⟩ ?_)
  clear hb1 hx1
  rintro i W ⟨hx, hi, acc, hb, hal, he⟩
  refine rn ?_
  first | refine G.condD rfl (fun hc => ?_) (fun hc => ?_) | refine G.condN rfl (fun hc => ?_) (fun hc => ?_) | refine G.cond rfl (fun hc => ?_) (fun hc => ?_)
  · have hlt : i < s.length := by omega
    have hone := fun h => unesc_one hlt h
    have htwo := fun h1 h2 => unesc_two (s := s) (i := i) h1 h2
    refine rn ?_
    refine sBs tb i ?_
    refine rn ?_
    refine sAd tb ?_
    refine rn ?_
    refine sAd tb ?_
    refine rn ?_
    refine sBs tb (i + 1) ?_ (hj := fun hc => by simp [cv] at hc; exact ⟨by omega, by omega⟩)
    refine rn ?_
    refine sAd tb ?_
    refine rn ?_
    refine sBs tb (i + 1) ?_ (hj := fun hc => by simp [cv] at hc; exact ⟨by omega, by omega⟩)
    refine rn ?_
    refine G.join (fun x : Nat × UInt8 => [(0, none, S s), (3, none, ptr w.heap.size), (4, none, .int .i64 x.1), (5, none, U x.2)]) (fun x W' => W' = W ∧ i ≤ x.1 ∧ x.1 < s.length ∧ unescP (s.drop i) = x.2 :: unescP (s.drop (x.1 + 1))) ?_ ?_
    · rintro ⟨k, c⟩ W' ⟨rfl, hik, hk, hce⟩
      simp only at hik hk hce ⊢
      refine rn ?_
      refine sCall c51 (wbyte_ok w.heap.size w.heap.size acc c W' hb (by omega) hx.size) ?_
      rintro _ W2 ⟨rfl, hb2, hx2⟩
      refine rn ?_
      refine sAd tb ?_
      refine rn ?_
      exact G.lp (x := i) (k + 1) (by repeat (first | exact Sub.nil _ | refine Sub.cons rfl ?_)) ⟨Below.trans (B := w.heap.size) hx hx2, by omega, acc ++ [c], hb2, by rw [List.length_append, List.length_cons, List.length_nil]; omega, by rw [he, hce]; simp⟩ (by omega)
    · refine G.cond rfl (fun hc => ?_) (fun hc => ?_)
      · simp only [Bool.and_eq_true, Bool.or_eq_true, decide_eq_true_eq] at hc
        have hlt1 : i + 1 < s.length := by omega
        have h2 := htwo hlt1 ⟨by rw [← UInt8.toNat_inj]; show _ = 92; omega, by
          rcases hc.2 with h | h
          · exact .inl (by rw [← UInt8.toNat_inj]; show _ = 92; omega)
          · exact .inr (by rw [← UInt8.toNat_inj]; show _ = 110; omega)⟩
        clear hone htwo
        refine rn ?_
        refine sAd tb ?_
        refine rn ?_
        refine sBs tb (i + 1) ?_
        generalize s.getD (i + 1) 0 = c at h2 ⊢
        refine rn ?_
        first | refine G.condD rfl (fun hc => ?_) (fun hc => ?_) | refine G.condN rfl (fun hc => ?_) (fun hc => ?_) | refine G.cond rfl (fun hc => ?_) (fun hc => ?_)
        · have h110 : c = 110 := by rw [← UInt8.toNat_inj]; show c.toNat = 110; omega
          rw [if_pos h110] at h2
          refine rn ?_
          exact G.met (i + 1, 10) (by repeat (first | exact Sub.nil _ | refine Sub.cons rfl ?_)) ⟨rfl, by show i ≤ i + 1; omega, hlt1, h2⟩
        · have h110 : ¬ c = 110 := by
            intro h; subst h; apply hc; rfl
          rw [if_neg h110] at h2
          refine rn ?_
          exact G.met (i + 1, c) (by repeat (first | exact Sub.nil _ | refine Sub.cons rfl ?_)) ⟨rfl, by show i ≤ i + 1; omega, hlt1, h2⟩
      · have hno : ¬ (s.getD i 0 = 92 ∧ i + 1 < s.length ∧ (s.getD (i + 1) 0 = 92 ∨ s.getD (i + 1) 0 = 110)) := by
          rintro ⟨h1, h2, h3⟩
          rw [h1, decide_eq_true (show (i : Int) + 1 < s.length by omega)] at hc
          rcases h3 with h3 | h3 <;> rw [h3] at hc <;> exact absurd hc (by decide)
        have h1 := hone hno
        refine rn ?_
        exact G.met (i, s.getD i 0) (by repeat (first | exact Sub.nil _ | refine Sub.cons rfl ?_)) ⟨rfl, Nat.le_refl _, hlt, h1⟩
  · obtain rfl : i = s.length := by omega
    rw [List.drop_length] at he
    refine rn ?_
    refine sCall c52 (bstr_ok w.heap.size w.heap.size acc W hb hx.size) ?_
    rintro _ W2 ⟨rfl, hx2⟩
    refine rn ?_
    refine G.ret1 rfl rfl rfl rfl ?_
    exact ⟨by rw [he]; simp [unescP], Below.trans (B := w.heap.size) hx hx2⟩
end Go.Proofs.YtcngoccnfmhhnaaGreatDoor
end
section
open Go Go.Vg Go.RowKit Go.Proofs Go.Proofs.YtcngoccnfmhhnaaGreatDoor
namespace Go.Proofs.YtcngoccnfmhhnaaGreatDoor
open Go.Ex

theorem Rd.kp2 {w w' : World} {rb c : Nat} {s : List UInt8} {i : Nat} (h : Rd w rb s i) (hx : Kp c w w') (hne : rb ≠ c) (hc : 3 < c) : Rd w' rb s i := ⟨h.bx.kp hx hne, h.tabs.kp hx hc, h.hb, h.hi, h.hs⟩
def saidC (x : Said) : List Value := [S x.word, S x.name, S x.rest]
def said0 : List Value := [S [], S [], S []]
theorem said_one {a b c : List UInt8} : ∀ y ∈ [S a, S b, S c], y.oneCell' = true := by
  intro y hy
  simp only [List.mem_cons, List.not_mem_nil, or_false] at hy
  rcases hy with rfl | rfl | rfl <;> rfl
set_option maxHeartbeats 1000000 in
theorem rcatch_ret (w : World) (c0 c1 : Nat) :
    CallsD Tryz.prog 57 ⟨[ptr c0, ptr c1]⟩ .returning w fun en u w' => en = .returned (.tuple #[]) ∧ u = .returning ∧ w' = w := by
  refine calls_catch (v := .nilIface) (S := fun w' => w' = w) Tryz.func57 rfl Tryz.ntmps57 rfl rfl rfl (fun c cs hm => by simp [recoverD, hm]) ?_
  simp only [argEnv]
  refine rn ?_
  refine GL.cons (Step.eqNil tb rfl (Op1.of rfl (by first | exact fun _ => rfl | exact fun h => h | exact fun h => bL h | exact fun h => bL (bL h) | exact fun h => bL (bL (bL h)))) (Op1.of rfl (by first | exact fun _ => rfl | exact fun h => h | exact fun h => bL h | exact fun h => bL (bL h) | exact fun h => bL (bL (bL h)))) rfl rfl ?_)
  refine rn ?_
  exact G.endCatch rfl rfl rfl
set_option maxHeartbeats 1000000 in
theorem rcatch_panic (w : World) (c0 c1 : Nat) (a e : Int) {u0 : List Value} {u1 : Value} (h0 : Bx w c0 u0) (h1 : Bx w c1 [u1]) (hl0 : u0.length = 3) (h01 : c0 < c1) :
    CallsD Tryz.prog 57 ⟨[ptr c0, ptr c1]⟩ (.panicking [{ v := .iface 107 (.agg ⟨[.int .i64 a, .int .i64 e]⟩), recovered := false }]) w fun en u w' => en = .returned (.tuple #[]) ∧ u = .panicking [{ v := .iface 107 (.agg ⟨[.int .i64 a, .int .i64 e]⟩), recovered := true }] ∧
      (Bx w' c0 said0 ∧ Bx w' c1 [.bool false] ∧ Below c0 w w') := by
  refine calls_catch (v := .iface 107 (.agg ⟨[.int .i64 a, .int .i64 e]⟩)) (S := fun w' => Bx w' c0 said0 ∧ Bx w' c1 [.bool false] ∧ Below c0 w w') Tryz.func57 rfl Tryz.ntmps57 rfl rfl rfl (fun c cs hm => by simp [recoverD, hm]) ?_
  simp only [argEnv]
  refine rn ?_
  refine GL.cons (Step.eqIface tb rfl (Op1.of rfl (by first | exact fun _ => rfl | exact fun h => h | exact fun h => bL h | exact fun h => bL (bL h) | exact fun h => bL (bL (bL h)))) (Op1.of rfl (by first | exact fun _ => rfl | exact fun h => h | exact fun h => bL h | exact fun h => bL (bL h) | exact fun h => bL (bL (bL h)))) rfl rfl ?_)
  refine rn ?_
  refine GL.cons (Step.assertT tb rfl (Op1.of rfl (by first | exact fun _ => rfl | exact fun h => h | exact fun h => bL h | exact fun h => bL (bL h) | exact fun h => bL (bL (bL h)))) rfl rfl rfl ?_)
  refine rn ?_
  have h3 := h1.lt
  refine sAl tb (fun W1 hb1 hs1 hx1 => ?_)
  refine rn ?_
  refine sSt tb (fun W2 hb2 hw2 => ?_)
  have hB2 : Below c0 w W2 := (hx1.mono (by omega)).wr hw2 (by omega)
  have hq0 : Bx W2 c0 u0 := (h0.to hx1).wr hw2 (by omega)
  have hq1 : Bx W2 c1 [u1] := (h1.to hx1).wr hw2 (by omega)
  refine rn ?_
  refine sSt tb (fun W3 hb3 hw3 => ?_) (vs := said0) (hv := rfl) (h1 := said_one) (hb := hq0) (hl := hl0)
  have hq1 := hq1.wr hw3 (by omega)
  refine sSt tb (fun W4 hb4 hw4 => ?_) (hb := hq1)
  refine rn ?_
  exact G.endCatch rfl rfl ⟨hb3.wr hw4 (by omega), hb4, (hB2.wr hw3 (by omega)).wr hw4 (by omega)⟩
/-- what a remark gives -/
def RemS (s : List UInt8) (w : World) (r : Value) (w' : World) : Prop :=
  Ext w w' ∧ ((∃ x, saysP metB s = some x ∧ r = .tuple ⟨[.agg ⟨saidC x⟩, .bool true]⟩) ∨ (saysP metB s = none ∧ ∃ a b c, r = .tuple ⟨[.agg ⟨[S a, S b, S c]⟩, .bool false]⟩))
set_option maxHeartbeats 4000000 in
theorem remark_ok (w : World) (s : List UInt8) (hs : s.length ≤ 1000000000) (hT : Tabs w) : Ret Tryz.prog 27 ⟨[S s]⟩ w (RemS s w) := by
  refine ret_of_GDf Tryz.func27 rfl Tryz.ntmps27 rfl ?_
  simp only [argEnv]
  refine rn ?_
  refine sAl tb (fun W1 hb1 hs1 hx1 => ?_)
  refine rn ?_
  refine sAl tb (fun W2 hb2 hs2 hx2 => ?_)
  refine rn ?_
  have e1 : W1.heap.size = w.heap.size + 1 := hs1
  have e2 : W2.heap.size = w.heap.size + 2 := by omega
  have hx02 := hx1.trans hx2
  have hp0 : Bx W2 w.heap.size said0 := hb1.to hx2
  have hp1 : Bx W2 W1.heap.size [.bool false] := hb2
  clear hb1 hb2 hx1 hx2
  have hP : ∀ (W : World) (t : Array Value) (en : Env) (a e : Int) (u0 : List Value) (u1 : Value), Fits 66 en t → Go.Vg.look en 2 = some (none, ptr w.heap.size) → Go.Vg.look en 3 = some (none, ptr W1.heap.size) →
      Bx W w.heap.size u0 → Bx W W1.heap.size [u1] → u0.length = 3 → Ext w W → saysP metB s = none →
      Leaves Tryz.prog Tryz.f27 t (fun en w' => ∃ v, en = .returned v ∧ RemS s w v w') [{ target := .fn (.func 57) ⟨[ptr w.heap.size, ptr W1.heap.size]⟩, args := #[] }] (.panicking [{ v := .iface 107 (.agg ⟨[.int .i64 a, .int .i64 e]⟩), recovered := false }]) W := by
    intro W t en a e u0 u1 hf l2 l3 h0 h1 hl0 hx hE
    refine leaves_panic c57 (rcatch_panic W _ _ a e h0 h1 hl0 (by omega)) ?_
    rintro w' ⟨h4, h5, hB⟩
    exact ⟨_, resCC hf rfl l2 l3 (RV.agg tb h4.cells) (RV.one tb (Bx.c0 h5 rfl)), Below.trans hx hB, .inr ⟨hE, [], [], [], rfl⟩⟩
  refine GL.deferL rfl rfl (Op1.of rfl (by first | exact fun _ => rfl | exact fun h => h | exact fun h => bL h | exact fun h => bL (bL h) | exact fun h => bL (bL (bL h)))) ?_
  refine rn ?_
  refine sBox (fun W3 hb3 hs3 hx3 => ?_)
  refine rn ?_
  have hx03 := hx02.trans hx3
  have hp0 := hp0.to hx3
  have hp1 := hp1.to hx3
  have hr3 : Rd W3 W2.heap.size s 0 := ⟨hb3, hT.to hx03, by have := hT.lt; omega, Nat.zero_le _, hs⟩
  refine sCall c58 (blanks_ok W3 W2.heap.size s 0 hr3) ?_
  rintro _ W4 ⟨rfl, hr4, hk4⟩
  have hp0 := hp0.kp hk4 (by omega)
  have hp1 := hp1.kp hk4 (by omega)
  have hx4 := hx03.ofKp hk4 (by omega)
  have hsk := skipB_drop s 0
  rw [List.drop_zero] at hsk hr4 ⊢
  generalize 0 + bls s = k0 at hr4 hsk
  refine rn ?_
  refine G.cond rfl (fun hc => ?_) (fun hc => ?_)
  · have hno : saysP metB s = none := by
      unfold saysP; rw [if_pos (by simpa using hc)]
    refine rn ?_
    refine sSt tb (fun W5 hb5 hw5 => ?_) (vs := said0) (hv := rfl) (h1 := said_one)
    have hp1 := hp1.wr hw5 (by omega)
    refine sSt tb (fun W6 hb6 hw6 => ?_)
    refine rn ?_
    refine G.ret fun t' hf => ?_
    refine leaves_ret c57 (rcatch_ret W6 _ _) ?_
    rintro w' rfl
    exact ⟨_, resCC hf rfl rfl rfl (RV.agg tb (hb5.wr hw6 (by omega)).cells) (RV.one tb (Bx.c0 hb6 rfl)), (hx4.wr hw5 (by omega)).wr hw6 (by omega), .inr ⟨hno, [], [], [], rfl⟩⟩
  have hsay : saysP metB s = match tokP (s.drop k0) with
      | none => none
      | some (wd, l1) => if wd ≠ helpW ∧ wd ≠ typeW then none else if bls l1 = 0 then none else match nameP true (skipB l1) with
        | none => none
        | some (nm, l2) => if bls l2 = 0 ∧ l2 ≠ [] then none else if metB nm then some ⟨wd, nm, skipB l2⟩ else none := by
    unfold saysP
    rw [if_neg (by simp at hc; omega), hsk]
    try (generalize tokP _ = q; rcases q with _ | ⟨wd, l1⟩ <;> (try rfl) <;> (simp only; generalize nameP _ _ = q; rcases q with _ | ⟨nm, l2⟩ <;> rfl))
  clear hc
  refine rn ?_
  refine GL.callPk c59 (token_ok W4 W2.heap.size s k0 hr4) ?_ ?_
  · rintro ch W' t hf ⟨hn, ⟨a, e, he, rfl⟩, hk⟩
    exact hP W' t _ a e _ _ hf rfl rfl (hp0.kp hk (by omega)) (hp1.kp hk (by omega)) rfl (hx4.ofKp hk (by omega)) (by rw [hsay, hn])
  rintro _ W5 ⟨tk, htk, rfl, hr5, hk5⟩
  have hp0 := hp0.kp hk5 (by omega)
  have hp1 := hp1.kp hk5 (by omega)
  have hx5 := hx4.ofKp hk5 (by omega)
  rw [htk] at hsay
  simp only at hsay
  unfold said0 at hp0
  refine rn ?_
  refine sSf tb (fun W6 hb6 hw6 => ?_)
  have hp1 := hp1.wr hw6 (by omega)
  have h3w : 3 < w.heap.size := hT.lt
  have hr6 := hr5.kp2 hw6.kp (by omega) h3w
  have hx6 : Ext w W6 := hx5.wr hw6 (Nat.le_refl _)
  have hb6 : Bx W6 w.heap.size [S tk, S [], S []] := hb6
  clear hr5 hx5 hp0
  refine rn ?_
  have hbw : (!decide (tk = [72, 69, 76, 80]) && !decide (tk = [84, 89, 80, 69])) = decide (tk ≠ helpW ∧ tk ≠ typeW) := by
    show (!decide (tk = helpW) && !decide (tk = typeW)) = _
    by_cases h1 : tk = helpW <;> by_cases h2 : tk = typeW <;> simp [h1, h2]
  rw [hbw]
  by_cases hw : tk ≠ helpW ∧ tk ≠ typeW
  · rw [decide_eq_true hw]
    have hno : saysP metB s = none := by rw [hsay, if_pos hw]
    refine GL.cons (Step.off (v := .bool false) rfl (of_decide_eq_true rfl) rfl ?_)
    refine rn ?_
    refine sSt tb (fun W7 hb7 hw7 => ?_) (vs := said0) (hv := rfl) (h1 := said_one)
    have hp1 := hp1.wr hw7 (by omega)
    refine sSt tb (fun W8 hb8 hw8 => ?_)
    refine rn ?_
    refine G.ret fun t' hf => ?_
    refine leaves_ret c57 (rcatch_ret W8 _ _) ?_
    rintro w' rfl
    exact ⟨_, resCC hf rfl rfl rfl (RV.agg tb (hb7.wr hw8 (by omega)).cells) (RV.one tb (Bx.c0 hb8 rfl)), (hx6.wr hw7 (by omega)).wr hw8 (by omega), .inr ⟨hno, [], [], [], rfl⟩⟩
  rw [decide_eq_false hw]
  rw [if_neg hw] at hsay
  refine GL.cons (Step.on rfl rfl (Step.callO rfl rfl (by repeat (first | exact OpL.nil | refine OpL.cons (Op1.of rfl (by first | exact fun _ => rfl | exact fun h => h | exact fun h => bL h | exact fun h => bL (bL h) | exact fun h => bL (bL (bL h)))) ?_)) c58 rfl (blanks_ok W6 W2.heap.size s (k0 + tk.length) hr6) ?_))
  rintro _ W7 ⟨rfl, hr7, hk7⟩
  have hb7 := hb6.kp hk7 (by omega)
  have hp1 := hp1.kp hk7 (by omega)
  have hx7 := hx6.ofKp hk7 (by omega)
  have hsk1 := skipB_drop s (k0 + tk.length)
  rw [hsk1] at hsay
  generalize k0 + tk.length + bls (s.drop (k0 + tk.length)) = k1 at hr7 hsk1 hsay
  generalize bls (s.drop (k0 + tk.length)) = n1 at hsay ⊢
  clear hb6 hr6 hx6
  refine rn ?_
  refine G.cond rfl (fun hc => ?_) (fun hc => ?_)
  · have hno : saysP metB s = none := by rw [hsay, if_pos (by simpa using hc)]
    refine rn ?_
    refine sSt tb (fun W8 hb8 hw8 => ?_) (vs := said0) (hv := rfl) (h1 := said_one)
    have hp1 := hp1.wr hw8 (by omega)
    refine sSt tb (fun W9 hb9 hw9 => ?_)
    refine rn ?_
    refine G.ret fun t' hf => ?_
    refine leaves_ret c57 (rcatch_ret W9 _ _) ?_
    rintro w' rfl
    exact ⟨_, resCC hf rfl rfl rfl (RV.agg tb (hb8.wr hw9 (by omega)).cells) (RV.one tb (Bx.c0 hb9 rfl)), (hx7.wr hw8 (by omega)).wr hw9 (by omega), .inr ⟨hno, [], [], [], rfl⟩⟩
  have hn1 : ¬ n1 = 0 := by simp at hc; omega
  rw [if_neg hn1] at hsay
  clear hc
  refine rn ?_
  refine GL.callPk c60 (name_ok true W7 W2.heap.size s k1 hr7) ?_ ?_
  · rintro ch W' t hf ⟨hn, ⟨a, e, he, rfl⟩, hk⟩
    exact hP W' t _ a e _ _ hf rfl rfl (hb7.kp hk (by omega)) (hp1.kp hk (by omega)) rfl (hx7.ofKp hk (by omega)) (by rw [hsay, hn])
  rintro _ W8 ⟨nm, hnm, rfl, hr8, hk8⟩
  have hb8 := hb7.kp hk8 (by omega)
  have hp1 := hp1.kp hk8 (by omega)
  have hx8 := hx7.ofKp hk8 (by omega)
  rw [hnm] at hsay
  simp only at hsay
  clear hb7 hr7 hx7
  refine rn ?_
  refine sSf tb (fun W9 hb9 hw9 => ?_)
  have hp1 := hp1.wr hw9 (by omega)
  have hr9 := hr8.kp2 hw9.kp (by omega) h3w
  have hx9 : Ext w W9 := hx8.wr hw9 (Nat.le_refl _)
  have hb9 : Bx W9 w.heap.size [S tk, S nm, S []] := hb9
  clear hr8 hx8 hb8
  have hsk2 := skipB_drop s (k1 + nm.length)
  have hr9d := hr9.to (Ext.drew W9)
  have hb9d := hb9.to (Ext.drew W9)
  have hp1d := hp1.to (Ext.drew W9)
  have hx9d := hx9.trans (Ext.drew W9)
  refine rn ?_
  refine G.join (fun x : Bool => [(2, none, ptr w.heap.size), (3, none, ptr W1.heap.size), (4, none, ptr W2.heap.size), (50, none, .bool x)]) (fun x W => Rd W W2.heap.size s (k1 + nm.length + bls (s.drop (k1 + nm.length))) ∧ Bx W w.heap.size [S tk, S nm, S []] ∧ Bx W W1.heap.size [.bool false] ∧ Ext w W ∧ x = decide (bls (s.drop (k1 + nm.length)) = 0 ∧ s.drop (k1 + nm.length) ≠ [])) ?_ ?_
  · clear hr9d hb9d hp1d hx9d hr9 hb9 hp1 hx9
    rintro x W ⟨hr, hb, hp, hx, hxe⟩
    rw [hsk2] at hsay
    generalize k1 + nm.length + bls (s.drop (k1 + nm.length)) = k2 at hr hsk2 hsay
    cases x
    · have hok : ¬ (bls (s.drop (k1 + nm.length)) = 0 ∧ s.drop (k1 + nm.length) ≠ []) := fun h => by rw [decide_eq_true h] at hxe; cases hxe
      rw [if_neg hok] at hsay
      have hkl := hr.hi
      have hrd := hr.to (Ext.drew W)
      have hbd := hb.to (Ext.drew W)
      have hpd := hp.to (Ext.drew W)
      have hxd := hx.trans (Ext.drew W)
      have hbxd := hrd.bx
      refine rn ?_
      refine G.regionM [(0, true), (1, true), (2, true), (3, true), (4, true), (5, true), (6, true), (7, true), (8, true), (9, true), (10, false)] (fun w' => Bx w' W2.heap.size [S s, .int .i64 (k2 : Nat)]) (by kernel_rfl) (by kernel_rfl) rfl mixed (hbxd) rfl ?_
      refine rd ?_
      refine GM.read (fun w' hS => Step.load1 tb rfl (Op1.of rfl (by first | exact fun _ => rfl | exact fun h => h | exact fun h => bL h | exact fun h => bL (bL h) | exact fun h => bL (bL (bL h)))) rfl rfl (fun _ => Bx.c0 hS rfl) rfl ⟨rfl, rfl⟩) rfl rfl ?_
      refine rd ?_
      refine GM.read (fun w' hS => Step.load1 tb rfl (Op1.of rfl (by first | exact fun _ => rfl | exact fun h => h | exact fun h => bL h | exact fun h => bL (bL h) | exact fun h => bL (bL (bL h)))) rfl rfl (fun _ => Bx.ci hS (by exact rfl)) rfl ⟨rfl, rfl⟩) rfl rfl ?_
      refine rd ?_
      refine GM.read (fun w' hS => Step.sliceSl tb k2 rfl (Op1.of rfl (by first | exact fun _ => rfl | exact fun h => h | exact fun h => bL h | exact fun h => bL (bL h) | exact fun h => bL (bL (bL h)))) (Op1.of rfl (by first | exact fun _ => rfl | exact fun h => h | exact fun h => bL h | exact fun h => bL (bL h) | exact fun h => bL (bL (bL h)))) rfl (fun _ => ⟨rfl, by omega⟩) rfl ⟨rfl, rfl⟩) rfl rfl ?_
      refine rd ?_
      refine GM.eff (Step.store tb rfl (Op1.of rfl (by first | exact fun _ => rfl | exact fun h => h | exact fun h => bL h | exact fun h => bL (bL h) | exact fun h => bL (bL (bL h)))) (Op1.of rfl (by first | exact fun _ => rfl | exact fun h => h | exact fun h => bL h | exact fun h => bL (bL h) | exact fun h => bL (bL (bL h)))) rfl rfl rfl (by simp [Value.oneCell', S]) hbd (by exact of_decide_eq_true rfl) ?_)
      intro W7 hb7 hw7
      refine ⟨hbxd.wr hw7 (by omega), ?_⟩
      refine GM.nil ?_
      have hb7 : Bx W7 w.heap.size [S tk, S nm, S (s.drop k2)] := hb7
      have hp7 := hpd.wr hw7 (by omega)
      have hx7 : Ext w W7 := hxd.wr hw7 (by omega)
      have hnl := nameP_len hnm
      have hlen : nm.length ≤ 1000000000 := by
        simp only [List.length_drop] at hnl
        omega
      have hb8 := hb7.to (Ext.drew W7)
      have hp8 := hp7.to (Ext.drew W7)
      have hx8 := hx7.trans (Ext.drew W7)
      refine rn ?_
      refine G.regionM [(0, true), (1, true), (2, true), (3, false), (4, false), (5, false)] (fun w' => Bx w' w.heap.size [S tk, S nm, S (s.drop k2)]) (by kernel_rfl) (by kernel_rfl) rfl mixed (hb8) rfl ?_
      refine GM.read (fun w' hS => Step.loadA tb rfl (Op1.of rfl (by first | exact fun _ => rfl | exact fun h => h | exact fun h => bL h | exact fun h => bL (bL h) | exact fun h => bL (bL (bL h)))) rfl rfl rfl (fun hc => Bx.cells hS) (fun _ => rfl) rfl ⟨rfl, rfl⟩) rfl rfl ?_
      refine rd ?_
      refine GM.read (fun w' hS => Step.load1 tb rfl (Op1.of rfl (by first | exact fun _ => rfl | exact fun h => h | exact fun h => bL h | exact fun h => bL (bL h) | exact fun h => bL (bL (bL h)))) rfl rfl (fun _ => Bx.ci hS (by exact rfl)) rfl ⟨rfl, rfl⟩) rfl rfl ?_
      refine rd ?_
      refine GM.eff (Step.callF rfl rfl rfl c61 rfl (metric_ok nm W7.drew hlen) ?_)
      rintro _ W10 ⟨rfl, hx10⟩
      have hb10 := hb8.to hx10
      have hp10 := hp8.to hx10
      have hx010 := hx8.trans hx10
      refine ⟨hb10, ?_⟩
      refine rd ?_
      refine GM.eff (Step.store0 (vs := [S tk, S nm, S (s.drop k2)]) tb rfl (Op1.of rfl (by first | exact fun _ => rfl | exact fun h => h | exact fun h => bL h | exact fun h => bL (bL h) | exact fun h => bL (bL (bL h)))) (Op1.of rfl (by first | exact fun _ => rfl | exact fun h => h | exact fun h => bL h | exact fun h => bL (bL h) | exact fun h => bL (bL (bL h)))) rfl rfl rfl said_one hb10 rfl ?_)
      intro Wa hba hwa
      have hp10 := hp10.wr hwa (by omega)
      refine ⟨hba, ?_⟩
      refine GM.eff (Step.store0 tb rfl (Op1.of rfl (by first | exact fun _ => rfl | exact fun h => h | exact fun h => bL h | exact fun h => bL (bL h) | exact fun h => bL (bL (bL h)))) (Op1.of rfl (by first | exact fun _ => rfl | exact fun h => h | exact fun h => bL h | exact fun h => bL (bL h) | exact fun h => bL (bL (bL h)))) rfl rfl rfl (by simp [Value.oneCell']) hp10 rfl ?_)
      intro Wb hbb hwb
      have hba := hba.wr hwb (by omega)
      refine ⟨hba, ?_⟩
      refine rd ?_
      refine GM.nil ?_
      refine G.ret fun t' hf => ?_
      refine leaves_ret c57 (rcatch_ret Wb _ _) ?_
      rintro w' rfl
      refine ⟨_, resCC hf rfl rfl rfl (RV.agg tb hba.cells) (RV.one tb (Bx.c0 hbb rfl)), (hx010.wr hwa (by omega)).wr hwb (by omega), ?_⟩
      cases hm : metB nm
      · rw [hm] at hsay
        exact .inr ⟨hsay, tk, nm, s.drop k2, rfl⟩
      · rw [hm] at hsay
        exact .inl ⟨⟨tk, nm, s.drop k2⟩, hsay, rfl⟩
    · have hbad : bls (s.drop (k1 + nm.length)) = 0 ∧ s.drop (k1 + nm.length) ≠ [] := of_decide_eq_true hxe.symm
      rw [if_pos hbad] at hsay
      refine rn ?_
      refine sSt tb (fun W7 hb7 hw7 => ?_) (vs := said0) (hv := rfl) (h1 := said_one)
      have hp := hp.wr hw7 (by omega)
      refine sSt tb (fun W8 hb8 hw8 => ?_)
      refine rn ?_
      refine G.ret fun t' hf => ?_
      refine leaves_ret c57 (rcatch_ret W8 _ _) ?_
      rintro w' rfl
      exact ⟨_, resCC hf rfl rfl rfl (RV.agg tb (hb7.wr hw8 (by omega)).cells) (RV.one tb (Bx.c0 hb8 rfl)), (hx.wr hw7 (by omega)).wr hw8 (by omega), .inr ⟨hsay, [], [], [], rfl⟩⟩
  · by_cases h0 : bls (s.drop (k1 + nm.length)) = 0
    · have hbxd := hr9d.bx
      have hkl := hr9d.hi
      refine G.regionM [(0, true), (1, false), (2, true), (3, true), (4, true), (5, true), (6, true), (7, true), (8, true), (9, true), (10, true), (11, true), (12, true), (13, true), (14, true)] (fun w' => Bx w' W2.heap.size [S s, .int .i64 ((k1 + nm.length : Nat) : Int)]) (by kernel_rfl) (by kernel_rfl) rfl mixed (hbxd) rfl ?_
      refine rd ?_
      refine GM.eff (Step.callF rfl rfl rfl c58 rfl (blanks_ok W9.drew W2.heap.size s (k1 + nm.length) hr9d) ?_)
      rintro _ W10 ⟨rfl, hr10, hk10⟩
      have hbx10 := hr10.bx
      rw [h0, Nat.add_zero] at hbx10
      refine ⟨hbx10, ?_⟩
      rw [h0]
      refine rd ?_
      refine GM.read (fun w' hS => Step.load1 tb rfl (Op1.of rfl (by first | exact fun _ => rfl | exact fun h => h | exact fun h => bL h | exact fun h => bL (bL h) | exact fun h => bL (bL (bL h)))) rfl rfl (fun _ => Bx.ci hS (by exact rfl)) rfl ⟨rfl, rfl⟩) rfl rfl ?_
      refine rd ?_
      refine GM.read (fun w' hS => Step.load1 tb rfl (Op1.of rfl (by first | exact fun _ => rfl | exact fun h => h | exact fun h => bL h | exact fun h => bL (bL h) | exact fun h => bL (bL (bL h)))) rfl rfl (fun _ => Bx.c0 hS rfl) rfl ⟨rfl, rfl⟩) rfl rfl ?_
      refine rd ?_
      refine GM.nil ?_
      rw [h0] at hr10
      refine G.met _ (by repeat (first | exact Sub.nil _ | refine Sub.cons rfl ?_)) ⟨hr10, hb9d.kp hk10 (by omega), hp1d.kp hk10 (by omega), hx9d.ofKp hk10 (by omega), ?_⟩
      by_cases hlt : k1 + nm.length < s.length
      · rw [decide_eq_true (show ((k1 + nm.length : Nat) : Int) < s.length by omega), decide_eq_true (show 0 = 0 ∧ s.drop (k1 + nm.length) ≠ [] from ⟨rfl, by rw [drop_at hlt]; simp⟩)]
        rfl
      · rw [decide_eq_false (show ¬ ((k1 + nm.length : Nat) : Int) < s.length by omega), decide_eq_false (show ¬ (0 = 0 ∧ s.drop (k1 + nm.length) ≠ []) from fun h => h.2 (drop_no hlt))]
        rfl
    · refine G.regionM [(0, true), (1, false), (2, true), (3, true), (4, true), (5, true), (6, true), (7, true), (8, true), (9, true), (10, true), (11, true), (12, true), (13, true), (14, true)] (fun _ => True) (by kernel_rfl) (by kernel_rfl) rfl mixed (trivial) rfl ?_
      refine rd ?_
      refine GM.eff (Step.callF rfl rfl rfl c58 rfl (blanks_ok W9.drew W2.heap.size s (k1 + nm.length) hr9d) ?_)
      rintro _ W10 ⟨rfl, hr10, hk10⟩
      refine ⟨trivial, ?_⟩
      rw [decide_eq_true (show 0 < bls (s.drop (k1 + nm.length)) by omega)]
      refine rd ?_
      refine GM.read (fun w' hS => Step.off (v := .int .i64 0) rfl (of_decide_eq_true rfl) rfl ⟨rfl, rfl⟩) rfl rfl ?_
      refine rd ?_
      refine GM.read (fun w' hS => Step.off (v := S []) rfl (of_decide_eq_true rfl) rfl ⟨rfl, rfl⟩) rfl rfl ?_
      refine rd ?_
      refine GM.nil ?_
      refine G.met _ (by repeat (first | exact Sub.nil _ | refine Sub.cons rfl ?_)) ⟨hr10, hb9d.kp hk10 (by omega), hp1d.kp hk10 (by omega), hx9d.ofKp hk10 (by omega), ?_⟩
      rw [decide_eq_false (show ¬ (bls (s.drop (k1 + nm.length)) = 0 ∧ s.drop (k1 + nm.length) ≠ []) from fun h => h0 h.1)]
      rfl
end Go.Proofs.YtcngoccnfmhhnaaGreatDoor
end
section
open Go Go.Vg Go.RowKit Go.Proofs Go.Proofs.YtcngoccnfmhhnaaGreatDoor
namespace Go.Proofs.YtcngoccnfmhhnaaGreatDoor
open Go.Ex

def famC (f : Fam) : List Value := [S f.name, S f.kind, S f.help]
def FamM (es : TV) (fams : List Fam) : Prop := ∀ m, vget es m = if famAt fams m < fams.length then some (.int .i64 (famAt fams m : Nat)) else none
theorem FamM.new {es : TV} {fams : List Fam} {n : List UInt8} (h : FamM es fams) (hn : famAt fams n = fams.length) : FamM (vput es n (.int .i64 (fams.length : Nat))) (fams ++ [fam0 n]) := by
  intro m
  have hl : (fams ++ [fam0 n]).length = fams.length + 1 := by simp
  rw [hl]
  by_cases hm : m = n
  · subst hm
    rw [vget_same, famAt_new fams m m hn, if_pos rfl, if_pos (by omega)]
  · rw [vget_other _ _ _ _ hm, h m]
    by_cases h1 : famAt fams m < fams.length
    · rw [if_pos h1, famAt_app fams _ m h1, if_pos (by omega)]
    · have := famAt_le fams m
      rw [if_neg h1, famAt_new fams n m (by omega), if_neg hm, if_neg (by omega)]
theorem FamM.put {es : TV} {fams : List Fam} {x : Said} (h : FamM es (fam1 fams x.name)) : FamM es (famPut fams x) := by
  intro m
  have h1 := famAt_put fams x m
  rw [h m, h1.1, h1.2]
/-- what is known of metrics, in memory -/
structure FamS (W : World) (fb mb B : Nat) (fv : Value) (fams : List Fam) : Prop where
  bx : Bx W fb [fv, .map (some mb)]
  ow : Owns W B fv 74 3 (fams.map famC)
  mp : ∃ es, Mv W mb es ∧ FamM es fams
  hf : fb < B
  hm : mb < B
  hfm : fb ≠ mb
theorem FamS.same {W W' : World} {fb mb B : Nat} {fv : Value} {fams : List Fam} (h : FamS W fb mb B fv fams) (h1 : W'.heap[fb]? = W.heap[fb]?) (h2 : W'.heap[mb]? = W.heap[mb]?) (h3 : ∀ g, fv.ownBlock = some g → W'.heap[g]? = W.heap[g]?) : FamS W' fb mb B fv fams := by
  obtain ⟨es, hm, he⟩ := h.mp
  refine ⟨h.bx.same h1, h.ow.same fun b _ e => h3 b e, ⟨es, hm.kept h2, he⟩, h.hf, h.hm, h.hfm⟩
theorem FamS.to {W W' : World} {fb mb B : Nat} {fv : Value} {fams : List Fam} (h : FamS W fb mb B fv fams) (hx : Ext W W') : FamS W' fb mb B fv fams := by
  obtain ⟨es, hm, _⟩ := h.mp
  exact h.same (hx.block _ h.bx.lt) (hx.block _ hm.lt) fun g hg => hx.block _ (h.ow.lt g hg).2
/-- the blocks that are not of what is known of metrics -/
def Off (fb mb : Nat) (fv : Value) (n b : Nat) : Prop := b < n ∧ b ≠ fb ∧ b ≠ mb ∧ fv.ownBlock ≠ some b
theorem Tabs.off {w W : World} {fb mb B : Nat} {fv : Value} {fams : List Fam} (hT : Tabs w) (h : FamS w fb mb B fv fams) (hk : Kq (Off fb mb fv w.heap.size) w W) (h3f : 3 < fb) (h3m : 3 < mb) (h3B : 3 < B) : Tabs W := by
  have hlt := hT.lt
  have ho : ∀ b, b ≤ 3 → Off fb mb fv w.heap.size b := fun b hb => ⟨by omega, by omega, by omega, fun e => by have := (h.ow.lt b e).1; omega⟩
  have cl : ∀ {a : Addr} {u : Value}, a.block ≤ 3 → w.cell? a = some u → W.cell? a = some u := by
    intro a u ha hu
    unfold World.cell? at hu ⊢
    rw [hk.same a.block (by omega) (ho _ ha)]; exact hu
  exact ⟨fun c hc => cl (by show 2 ≤ 3; omega) (hT.1 c hc), fun i hi => ⟨cl (by show 3 ≤ 3; omega) (hT.2 i hi).1, cl (by show 3 ≤ 3; omega) (hT.2 i hi).2⟩⟩
theorem famC_set (fams : List Fam) (x : Said) (off : Nat) (u : List UInt8) (h : ∀ f, famC (famSet x f) = (famC f).set off (S u)) : ((fam1 fams x.name).map famC).set (famAt fams x.name) ((((fam1 fams x.name).map famC).getD (famAt fams x.name) []).set off (S u)) = (famPut fams x).map famC := by
  have hlt := fam1_lt fams x.name
  rw [famPut_set, List.map_set, h]
  congr 2
  rw [List.getD_eq_getElem?_getD, List.getElem?_map, List.getD_eq_getElem?_getD, List.getElem?_eq_getElem hlt]
  rfl
set_option maxHeartbeats 4000000 in
theorem takes_ok (w : World) (fb mb B : Nat) (fv : Value) (fams : List Fam) (x : Said) (h : FamS w fb mb B fv fams) (hB : B ≤ w.heap.size) (hl : fams.length ≤ 1000000000) (hr : x.rest.length ≤ 1000000000) (hT : Tabs w) (h3f : 3 < fb) (h3m : 3 < mb) :
    Ret Tryz.prog 28 ⟨[ptr fb, .agg ⟨saidC x⟩]⟩ w fun r w' => r = .bool (saidOk x) ∧ Kq (Off fb mb fv w.heap.size) w w' ∧ (saidOk x = true → ∃ fv', FamS w' fb mb B fv' (famPut fams x) ∧ ∀ g, fv'.ownBlock = some g → fv.ownBlock = some g ∨ w.heap.size ≤ g) := by
  have hfl := h.bx.lt
  have hfB := h.hf
  have hmB := h.hm
  have hfm := h.hfm
  obtain ⟨es, hes, hM⟩ := h.mp
  refine ret_of_G Tryz.func28 rfl Tryz.ntmps28 rfl ?_
  simp only [argEnv]
  refine rn ?_
  refine sBox (fun W1 hb1 hs1 hx1 => ?_)
  obtain ⟨xb, hxb⟩ : ∃ xb, xb = w.heap.size := ⟨_, rfl⟩
  rw [← hxb] at hb1 hs1 ⊢
  have h1 := h.to hx1
  have hes1 := hes.to hx1
  have hfx1 := h1.bx
  unfold saidC at hb1
  refine rn ?_
  refine G.regionM [(0, true), (1, true), (2, true), (3, true), (4, true), (5, true), (6, false), (7, true), (8, true), (9, true), (10, true), (11, true)] (Ext W1) (by kernel_rfl) (by kernel_rfl) rfl mixed (Ext.drew W1) rfl ?_
  refine rd ?_
  refine GM.eff (Step.lookupMV tb rfl (Op1.of rfl (by first | exact fun _ => rfl | exact fun h => h | exact fun h => bL h | exact fun h => bL (bL h) | exact fun h => bL (bL (bL h)))) (Op1.of rfl (by first | exact fun _ => rfl | exact fun h => h | exact fun h => bL h | exact fun h => bL (bL h) | exact fun h => bL (bL (bL h)))) rfl rfl rfl (fun _ => hes1.to (Ext.drew W1)) rfl ⟨Ext.drew W1, ?_⟩)
  have hv := hM x.name
  have hbd := hb1.to (Ext.drew W1)
  have hd := h1.to (Ext.drew W1)
  have hx1d := hx1.trans (Ext.drew W1)
  have hesd := hes1.to (Ext.drew W1)
  have hszd : W1.drew.heap.size = xb + 1 := hs1
  clear hfx1 h1 hes1 hb1 hx1 hs1
  generalize W1.drew = W2 at hbd hd hx1d hesd hszd ⊢
  have hnot : (vget es x.name).isSome = decide (famAt fams x.name < fams.length) := by
    rw [hv]; by_cases hin : famAt fams x.name < fams.length
    · rw [if_pos hin, decide_eq_true hin]; rfl
    · rw [if_neg hin, decide_eq_false hin]; rfl
  rw [hnot]
  refine rd ?_
  refine GM.nil ?_
  have hfmle := famAt_le fams x.name
  have hkq2 : Kq (Off fb mb fv w.heap.size) w W2 := hx1d.kq
  have hxl : xb < W2.heap.size := by omega
  have hxfb : xb ≠ fb := by omega
  have hmlt := hes.lt
  have hxmb : xb ≠ mb := by omega
  refine rn ?_
  refine G.join (fun fv' : Value => [(0, none, ptr fb), (3, none, ptr xb), (4, none, .bool false), (5, none, .int .i64 (famAt fams x.name : Nat))]) (fun fv' W => FamS W fb mb B fv' (fam1 fams x.name) ∧ Bx W xb [S x.word, S x.name, S x.rest] ∧ Kq (Off fb mb fv w.heap.size) w W ∧ xb < W.heap.size ∧ fv'.ownBlock ≠ some xb ∧ ∀ g, fv'.ownBlock = some g → fv.ownBlock = some g ∨ w.heap.size ≤ g) ?_ ?_
  · rintro fv' W ⟨hfs, hbx, hk, hxl, hox, hown⟩
    clear hkq2 hd hbd hx1d hesd hszd hnot
    have hfx := hfs.bx
    have hfo := hfs.ow
    have hlt := fam1_lt fams x.name
    have hll : ((fam1 fams x.name).map famC).length = (fam1 fams x.name).length := by simp
    obtain ⟨es1, hm1, hM1⟩ := hfs.mp
    obtain ⟨a, fc, rfl⟩ : ∃ a fc, fv' = .slice (some a) ((fam1 fams x.name).map famC).length fc := by
      rcases hfo.sli with ⟨_, h0⟩ | ⟨a, fc, rfl, _⟩
      · have := congrArg List.length h0
        rw [hll] at this
        simp only [List.length_nil] at this
        omega
      · exact ⟨a, fc, rfl⟩
    have hslv := hfo.sli
    have hll2 : (fam1 fams x.name).length ≤ fams.length + 1 := by unfold fam1; split <;> simp
    have hgoff : ∀ g, (Value.slice (some a) ((fam1 fams x.name).map famC).length fc).ownBlock = some g → ¬ Off fb mb fv w.heap.size g := fun g hg hP => by
      rcases hown g hg with h | h
      · exact hP.2.2.2 h
      · have := hP.1; omega
    refine rn ?_
    first | refine G.condD rfl (fun hc => ?_) (fun hc => ?_) | refine G.condN rfl (fun hc => ?_) (fun hc => ?_) | refine G.cond rfl (fun hc => ?_) (fun hc => ?_)
    · have hword : x.word = helpW := hc
      have hset : ∀ f, famC (famSet x f) = (famC f).set 2 (S (unescP x.rest)) := fun f => by unfold famSet; rw [if_pos hword]; rfl
      have hsok : saidOk x = Lib.validD x.rest := by unfold saidOk; rw [if_pos hword]
      have hfxd := hfx.to (Ext.drew W)
      have hbxd := hbx.to (Ext.drew W)
      refine rn ?_
      refine G.regionM [(0, true), (1, true), (2, true), (3, true), (4, true), (5, true), (6, true), (7, false), (8, true), (9, true), (10, false)] (fun w' => Bx w' fb [.slice (some a) ((fam1 fams x.name).map famC).length fc, .map (some mb)] ∧ Bx w' xb [S x.word, S x.name, S x.rest]) (by kernel_rfl) (by kernel_rfl) rfl mixed (⟨hfxd, hbxd⟩) rfl ?_
      refine rd ?_
      refine dLd tb (u := .slice (some a) ((fam1 fams x.name).map famC).length fc) ?_ (hc := fun w' hS _ => Bx.c0 hS.1 rfl)
      refine rd ?_
      refine dLd tb (u := S x.rest) ?_ (hc := fun w' hS _ => Bx.ci (i := 2) hS.2 (by exact rfl))
      refine rd ?_
      refine GM.eff (Step.callF rfl rfl rfl c62 rfl (unescaped_ok x.rest W.drew hr) ?_)
      rintro _ W2 ⟨rfl, hx2⟩
      have hfx2 := hfxd.to hx2
      have hbx2 := hbxd.to hx2
      have hx2 := (Ext.drew W).trans hx2
      refine ⟨⟨hfx2, hbx2⟩, ?_⟩
      refine rd ?_
      refine dIa tb (famAt fams x.name) ?_
      refine rd ?_
      have ho2 := hfo.to hx2
      refine GM.eff (Step.storeRowF tb (j := famAt fams x.name) (off := 2) rfl (Op1.of rfl (by first | exact fun _ => rfl | exact fun h => h | exact fun h => bL h | exact fun h => bL (bL h) | exact fun h => bL (bL (bL h)))) (Op1.of rfl (by first | exact fun _ => rfl | exact fun h => h | exact fun h => bL h | exact fun h => bL (bL h) | exact fun h => bL (bL (bL h)))) rfl rfl rfl ho2 (by rw [hll]; exact hlt) (by decide) ?_)
      intro W3 ho3 hg3
      have hnfb := ho2.ne hfB
      have hfx3 := hfx2.grew hg3 hnfb
      have hbx3 := hbx2.grew hg3 (fun e => hox e.symm)
      refine ⟨⟨hfx3, hbx3⟩, ?_⟩
      refine GM.nil ?_
      rw [famC_set fams x 2 _ hset] at ho3
      have hm3 := (hm1.to hx2).below hg3.bl hmB
      have hk3 : Kq (Off fb mb fv w.heap.size) w W3 := (hk.trans hx2.kq).trans (hg3.kq hgoff)
      have hT3' : Tabs W3 := hT.off h hk3 h3f h3m (by omega)
      refine rn ?_
      refine sCall c63 (validS_ok x.rest W3 (by omega) hT3') ?_
      rintro _ W4 ⟨rfl, hx4⟩
      refine rn ?_
      refine G.ret1 rfl rfl rfl rfl ?_
      subst hxb
      refine ⟨by rw [hsok], hk3.trans hx4.kq, fun _ => ⟨_, (FamS.mk hfx3 ho3 ⟨es1, hm3, hM1.put⟩ hfB hmB hfm).to hx4, hown⟩⟩
    · have hword : ¬ x.word = helpW := hc
      have hset : ∀ f, famC (famSet x f) = (famC f).set 1 (S (trimR x.rest)) := fun f => by unfold famSet; rw [if_neg hword]; rfl
      have hsok : saidOk x = kindsL.contains (trimR x.rest) := by unfold saidOk; rw [if_neg hword]
      refine rn ?_
      refine sCall c64 (trimBR_ok x.rest W hr) ?_
      rintro _ W2 ⟨rfl, hx2⟩
      have hs2 := hfs.to hx2
      have hbx2 := hbx.to hx2
      have hk2 := hk.trans hx2.kq
      have hm2 := hm1.to hx2
      refine rn ?_
      refine sCall c65 (kinds_ok W2) ?_
      rintro kv W3 ⟨hkv, hx3⟩
      have hs3 := hs2.to hx3
      have hk3 := hk2.trans hx3.kq
      have hm3 := hm2.to hx3
      have hksl := hkv.sli
      have hkl : (kindsL.map fun x => [S x]).length = 5 := rfl
      clear hs2 hk2 hm2 hbx2
      refine rn ?_
      refine (G.loop (fun j : Nat => [(0, none, ptr fb), (4, none, .bool false), (5, none, .int .i64 (famAt fams x.name : Nat)), (7, none, S (trimR x.rest)), (65, none, kv), (66, none, .int .i64 (kindsL.map fun x => [S x]).length), (67, none, .int .i64 j)]) (fun j W' => W' = W3 ∧ j ≤ 5 ∧ ∀ m, m < j → kindsL[m]? ≠ some (trimR x.rest)) (fun j => 5 - j) 0 (by repeat (first | exact Sub.nil _ | refine Sub.cons rfl ?_)) ⟨rfl, by omega, by omega⟩ ?_)
      rintro j W' ⟨rfl, hj, hno⟩
      refine rn ?_
      first | refine G.condD rfl (fun hc => ?_) (fun hc => ?_) | refine G.condN rfl (fun hc => ?_) (fun hc => ?_) | refine G.cond rfl (fun hc => ?_) (fun hc => ?_)
      · have hj5 : j < 5 := by omega
        obtain ⟨kd, hkd⟩ : ∃ kd, kindsL[j]? = some kd := ⟨_, List.getElem?_eq_getElem (by simpa [kindsL] using hj5)⟩
        have hget : (kindsL.map fun x => [S x])[j]? = some [S kd] := by rw [List.getElem?_map, hkd]; rfl
        try (first | refine gl tb ?_ | refine gg tb ?_ | refine ll tb ?_ | refine lg tb ?_); repeat ((first | refine G.condT rfl ?_ | refine G.condF rfl ?_ | refine sFa tb ?_ | refine sLd tb ?_ | refine sLa tb ?_ | refine sLen tb ?_ | refine sFd tb ?_ | refine sBd tb ?_ | refine sIa tb j ?_); try (first | refine gl tb ?_ | refine gg tb ?_ | refine ll tb ?_ | refine lg tb ?_))
        first | refine G.condD rfl (fun hc => ?_) (fun hc => ?_) | refine G.condN rfl (fun hc => ?_) (fun hc => ?_) | refine G.cond rfl (fun hc => ?_) (fun hc => ?_)
        · have hkt : kd = trimR x.rest := hc
          have hfx3 := hs3.bx
          have hfo3 := hs3.ow
          have hslv3 := hfo3.sli
          refine rn ?_
          refine sIa tb (famAt fams x.name) ?_ (hs := fun _ => ⟨_, hslv3⟩) (hj := fun _ => ⟨rfl, by rw [hll]; exact hlt⟩)
          refine rn ?_
          refine GL.cons (Step.storeRowF tb (j := famAt fams x.name) (off := 1) rfl (Op1.of rfl (by first | exact fun _ => rfl | exact fun h => h | exact fun h => bL h | exact fun h => bL (bL h) | exact fun h => bL (bL (bL h)))) (Op1.of rfl (by first | exact fun _ => rfl | exact fun h => h | exact fun h => bL h | exact fun h => bL (bL h) | exact fun h => bL (bL (bL h)))) rfl rfl rfl hfo3 (by rw [hll]; exact hlt) (by decide) ?_)
          intro W4 ho4 hg4
          have hfx4 := hfx3.grew hg4 (hfo3.ne hfB)
          rw [famC_set fams x 1 _ hset] at ho4
          have hm4 := hm3.below hg4.bl hmB
          refine rn ?_
          refine G.ret1 rfl rfl rfl rfl ?_
          subst hxb
          refine ⟨?_, hk3.trans (hg4.kq hgoff), fun _ => ⟨_, FamS.mk hfx4 ho4 ⟨es1, hm4, hM1.put⟩ hfB hmB hfm, hown⟩⟩
          rw [hsok]
          congr 1
          symm
          rw [List.contains_iff_mem, ← hkt]
          exact List.mem_of_getElem? hkd
        · have hne := hc
          refine rn ?_
          refine sAd tb ?_
          refine rn ?_
          refine G.lp (x := j) (j + 1) (by repeat (first | exact Sub.nil _ | refine Sub.cons rfl ?_)) ⟨rfl, by omega, fun m hm e => ?_⟩ (by omega)
          by_cases em : m = j
          · subst em
            rw [hkd] at e
            cases e
            exact hne rfl
          · exact hno m (by omega) e
      · have hj5 : j = 5 := by omega
        refine rn ?_
        refine G.ret1 rfl rfl rfl rfl ?_
        subst hxb
        have hnot : kindsL.contains (trimR x.rest) = false := by
          rw [Bool.eq_false_iff]
          intro hct
          rw [List.contains_iff_mem] at hct
          obtain ⟨m, hm⟩ := List.getElem?_of_mem hct
          exact hno m (by have := (List.getElem?_eq_some_iff.1 hm).1; simp [kindsL] at this; omega) hm
        refine ⟨by rw [hsok, hnot], hk3, fun h => ?_⟩
        rw [hsok, hnot] at h
        cases h
  · have hox : fv.ownBlock ≠ some xb := fun e => by have := (h.ow.lt xb e).2; omega
    by_cases hin : famAt fams x.name < fams.length
    · rw [decide_eq_true hin]
      rw [if_pos hin] at hv
      rw [hv]
      simp only [Option.getD_some]
      have hf1 : fam1 fams x.name = fams := by unfold fam1; rw [if_pos hin]
      refine rn ?_
      exact G.met fv (by repeat (first | exact Sub.nil _ | refine Sub.cons rfl ?_)) ⟨by rw [hf1]; exact hd, hbd, hkq2, hxl, hox, fun g hg => .inl hg⟩
    · rw [decide_eq_false hin]
      have hn : famAt fams x.name = fams.length := by omega
      rw [if_neg hin] at hv
      have hf1 : fam1 fams x.name = fams ++ [fam0 x.name] := by unfold fam1; rw [if_neg hin]
      have hfx := hd.bx
      have hfo := hd.ow
      obtain ⟨fa, fc, hfe, -⟩ := hfo.sli.len
      have hll : (fams.map famC).length = fams.length := by simp
      have hlenV : ∃ w0, Sli w0 fv 3 (fams.map famC) := ⟨_, hfo.sli⟩
      refine rn ?_
      have hfx' := hfx.to (Ext.drew W2)
      have hbd' := hbd.to (Ext.drew W2)
      refine G.regionM [(0, true), (1, true), (2, true), (3, true), (4, true), (5, true), (6, true), (7, false)] (fun w' => Bx w' fb [fv, .map (some mb)] ∧ Bx w' xb [S x.word, S x.name, S x.rest]) (by kernel_rfl) (by kernel_rfl) rfl mixed (⟨hfx', hbd'⟩) rfl ?_
      refine rd ?_
      refine dLd tb (u := .map (some mb)) ?_ (hc := fun w' hS _ => Bx.ci (i := 1) hS.1 (by exact rfl))
      refine rd ?_
      refine dLd tb (u := S x.name) ?_ (hc := fun w' hS _ => Bx.ci (i := 1) hS.2 (by exact rfl))
      refine rd ?_
      refine GM.eff (Step.mapUpdateV tb rfl (Op1.of rfl (by first | exact fun _ => rfl | exact fun h => h | exact fun h => bL h | exact fun h => bL (bL h) | exact fun h => bL (bL (bL h)))) (Op1.of rfl (by first | exact fun _ => rfl | exact fun h => h | exact fun h => bL h | exact fun h => bL (bL h) | exact fun h => bL (bL (bL h)))) (Op1.of rfl (by first | exact fun _ => rfl | exact fun h => h | exact fun h => bL h | exact fun h => bL (bL h) | exact fun h => bL (bL (bL h)))) rfl rfl (hesd.to (Ext.drew W2)) ?_)
      intro W3 hm3 hw3
      have hfx3 := hfx'.wr hw3 hfm
      have hbx3 := hbd'.wr hw3 hxmb
      refine ⟨⟨hfx3, hbx3⟩, ?_⟩
      refine GM.nil ?_
      rw [hll] at hm3
      have hM3 := hM.new hn
      have ho3 := (hfo.to (Ext.drew W2)).kp hw3.kp hmB
      have hk3 : Kq (Off fb mb fv w.heap.size) w W3 := (hkq2.trans (Ext.drew W2).kq).trans (hw3.kq fun hP => hP.2.2.1 rfl)
      have hs3 : W3.heap.size = xb + 1 := by rw [hw3.size]; exact hszd
      have hfx4 := hfx3.to (Ext.drew W3)
      have hbx4 := hbx3.to (Ext.drew W3)
      have ho4 := ho3.to (Ext.drew W3)
      have hm4 := hm3.to (Ext.drew W3)
      have hk4 : Kq (Off fb mb fv w.heap.size) w W3.drew := hk3.trans (Ext.drew W3).kq
      have hs4 : W3.drew.heap.size = xb + 1 := hs3
      clear hfx3 hbx3 ho3 hm3 hk3 hfx' hbd' hfx hbd hd hesd
      refine rn ?_
      refine G.regionZ 12 [(0, true), (1, true), (2, true), (3, true), (4, true), (5, true), (6, true), (7, true), (8, false), (9, false), (10, true), (11, true)] (fun w' => Bx w' fb [fv, .map (some mb)] ∧ Bx w' xb [S x.word, S x.name, S x.rest]) (by kernel_rfl) (by kernel_rfl) rfl mixed (⟨hfx4, hbx4⟩) rfl rfl ?_
      generalize W3.drew = W4 at hfx4 hbx4 ho4 hm4 hk4 hs4 ⊢
      refine rd ?_
      refine dLd tb (u := fv) ?_ (hc := fun w' hS _ => Bx.c0 hS.1 rfl)
      refine rd ?_
      refine dLd tb (u := S x.name) ?_ (hc := fun w' hS _ => Bx.ci (i := 1) hS.2 (by exact rfl))
      refine rd ?_
      refine GM.read (fun w' hS => Step.build tb rfl rfl rfl rfl rfl rfl rfl rfl rfl ⟨rfl, rfl⟩) rfl rfl ?_
      refine rd ?_
      refine GM.eff (Step.buildSlice tb [famC (fam0 x.name)] rfl rfl rfl rfl rfl rfl (by rfl) rfl (by kernel_rfl) (by rfl) (by rfl) (by simp [famC]) rfl ?_)
      intro us W5 ho5 hs5 hx5
      have hfx5 := hfx4.to hx5
      have hbx5 := hbx4.to hx5
      refine ⟨⟨hfx5, hbx5⟩, ?_⟩
      refine rd ?_
      have how5 := ho4.to hx5
      have hB5 : B ≤ W5.heap.size := by omega
      have h1f : ∀ y ∈ [famC (fam0 x.name)], ∀ c ∈ y, c.oneCell' = true := by
        intro y hy c hc
        obtain rfl := List.mem_singleton.1 hy
        simp only [famC, List.mem_cons, List.not_mem_nil, or_false] at hc
        rcases hc with rfl | rfl | rfl <;> rfl
      refine GM.eff (Step.append2 tb rfl (Op1.of rfl (by first | exact fun _ => rfl | exact fun h => h | exact fun h => bL h | exact fun h => bL (bL h) | exact fun h => bL (bL (bL h)))) (Op1.of rfl (by first | exact fun _ => rfl | exact fun h => h | exact fun h => bL h | exact fun h => bL (bL h) | exact fun h => bL (bL (bL h)))) rfl rfl rfl (by rfl) (how5) (ho5.sli) (h1f) (by simp only [List.length_map, List.length_append, List.length_cons, List.length_nil, List.length_take, List.length_drop]; omega) (by simp only [List.length_map, List.length_append, List.length_cons, List.length_nil, List.length_take, List.length_drop]; omega) (hB5) rfl ?_)
      intro fv' W6 ho6 hg6 ho2
      have hnfb : some fb ≠ fv.ownBlock := fun e => by have := (how5.lt fb e.symm).1; omega
      have hfx6 := hfx5.grew hg6 hnfb
      have hbx6 := hbx5.grew hg6 (fun e => hox e.symm)
      refine ⟨⟨hfx6, hbx6⟩, ?_⟩
      obtain ⟨pa, pc, hpv, -⟩ := ho6.sli.len
      have hcl6 := ho6.cells
      have hon6 : fv'.oneCell' = true := ho6.sli.one fv' (List.mem_singleton.2 rfl)
      refine rd ?_
      refine GM.nil ?_
      refine zSf tb (fun W7 hb7 hw7 => ?_) (vs := [fv']) (hv := hcl6) (h1 := by intro y hy; obtain rfl := List.mem_singleton.1 hy; exact hon6)
      have hb7 : Bx W7 fb [fv', .map (some mb)] := hb7
      have hfl2 : (fam1 fams x.name).map famC = fams.map famC ++ [famC (fam0 x.name)] := by rw [hf1, List.map_append]; rfl
      have ho7 : Owns W7 B fv' 74 3 ((fam1 fams x.name).map famC) := by rw [hfl2]; exact ho6.kp hw7.kp hfB
      have hg56 := hg6.size
      have hm7 := ((hm4.to hx5).below hg6.bl hmB).kp hw7.kp (Ne.symm hfm)
      have hbx7 := hbx6.wr hw7 hxfb
      have hk7 : Kq (Off fb mb fv w.heap.size) w W7 := ((hk4.trans hx5.kq).trans (hg6.kq fun g hg hP => hP.2.2.2 hg)).trans (hw7.kq fun hP => hP.2.1 rfl)
      have hs7 := hw7.size
      refine rn ?_
      have he5 : (fams.map famC).length = famAt fams x.name := by omega
      rw [he5]
      refine G.met fv' (by repeat (first | exact Sub.nil _ | refine Sub.cons rfl ?_)) ⟨⟨hb7, ho7, ⟨_, hm7, by rw [hf1]; exact hM3⟩, hfB, hmB, hfm⟩, hbx7, hk7, by omega, ?_, ?_⟩
      · intro e
        rcases ho2 with ho2 | ho2
        · exact hox (by rw [← ho2]; exact e)
        · rw [ho2] at e
          simp only [Option.some.injEq] at e
          omega
      · intro g hg
        rcases ho2 with ho2 | ho2
        · exact .inl (by rw [← ho2]; exact hg)
        · rw [ho2] at hg
          cases hg
          exact .inr (by omega)
end Go.Proofs.YtcngoccnfmhhnaaGreatDoor
end
section
open Go Go.Vg Go.RowKit Go.Proofs Go.Proofs.YtcngoccnfmhhnaaGreatDoor
namespace Go.Proofs.YtcngoccnfmhhnaaGreatDoor
open Go.Ex

def wakeT : List UInt8 := [117, 112, 123, 97, 61, 34, 49, 34, 125, 32, 50, 32, 51]
def wakeL : LineS := ⟨[117, 112], [([97], [49])], 4611686018427387904, some 3⟩
theorem wake_sample : (match sampleP Num.intP wakeT with | some L => decide (L.name = wakeL.name) && decide (L.labs = wakeL.labs) && decide (L.val = wakeL.val) && decide (L.time = wakeL.time) | none => false) = true := by decide +kernel
theorem wake_nl : nlI wakeT < 0 := by decide +kernel
theorem wake_ok : ([(nameB, [117, 112]), ([97], [49])] : List Lab.Lab).all Lab.okB = true := by decide +kernel
theorem wake_line : sampleP Num.intP wakeT = some wakeL := by
  have h := wake_sample
  split at h
  · rename_i L hL
    simp only [Bool.and_eq_true, decide_eq_true_eq] at h
    obtain ⟨⟨⟨h1, h2⟩, h3⟩, h4⟩ := h
    rw [hL]
    rcases L with ⟨a, b, c, d⟩
    simp only at h1 h2 h3 h4
    subst h1 h2 h3 h4
    rfl
  · cases h
theorem wake_new {e : Int} {out : List Lab.Lab} (h : Lab.newS ((nameB, wakeL.name) :: wakeL.labs) e out) : e = 0 ∧ out.length = 2 := by
  unfold Lab.newS at h
  rw [if_pos (show (((nameB, wakeL.name) :: wakeL.labs : List Lab.Lab).all Lab.okB = true) from wake_ok)] at h
  obtain ⟨d, hp, hs, h⟩ := h
  have hp : d.Perm [(nameB, [117, 112]), ([97], [49])] := hp
  have hl := hp.length_eq
  have hnd : (d.map (·.1)).Nodup := (hp.map _).nodup_iff.2 (by decide)
  rcases d with _ | ⟨x, _ | ⟨y, _ | ⟨z, d⟩⟩⟩
  · simp at hl
  · simp at hl
  · rcases h with ⟨⟨i, h1, h2, h3⟩, _⟩ | ⟨_, h⟩
    · exfalso
      simp only [List.length_cons, List.length_nil] at h2
      obtain rfl : i = 1 := by omega
      have : y.1 = x.1 := h3
      simp [this] at hnd
    · rw [if_neg (by simp)] at h
      exact ⟨h.1, by rw [h.2]; rfl⟩
  · simp at hl
theorem quote_ok (w : World) : Ret Tryz.prog 25 ⟨[S [34]]⟩ w fun r w' => r = S [92, 34] ∧ Ext w w' := by
  refine ret_of_G Tryz.func25 rfl Tryz.ntmps25 rfl ?_
  simp only [argEnv]
  refine rn ?_
  refine GL.cons (Step.allocE tb rfl rfl rfl rfl ?_)
  have hx1 : Ext w (w.alloc (.cells ⟨[.pointer none, .slice none 0 0]⟩ 92)) := Ext.alloc _ _
  have hb1 : Bld (w.alloc (.cells ⟨[.pointer none, .slice none 0 0]⟩ 92)) w.heap.size w.heap.size [] :=
    .inl ⟨Nat.le_refl _, _, heap_alloc_new _ _, World.ownsRow_nil _ _ _ _, by simp [Value.ownBlock]⟩
  generalize w.alloc (.cells ⟨[.pointer none, .slice none 0 0]⟩ 92) = W1 at hx1 hb1 ⊢
  refine rn ?_
  refine (G.loop (fun j : Nat => [(0, none, S [34]), (3, none, ptr w.heap.size), (7, none, .int .i64 1), (8, none, .int .i64 j)]) (fun j W => Ext w W ∧ j ≤ 1 ∧ Bld W w.heap.size w.heap.size (if j = 0 then [] else [92, 34])) (fun j => 1 - j) 0 (by repeat (first | exact Sub.nil _ | refine Sub.cons rfl ?_)) ⟨hx1, by omega, hb1⟩ ?_)
  clear hb1 hx1
  rintro j W ⟨hx, hj, hb⟩
  refine rn ?_
  first | refine G.condD rfl (fun hc => ?_) (fun hc => ?_) | refine G.condN rfl (fun hc => ?_) (fun hc => ?_) | refine G.cond rfl (fun hc => ?_) (fun hc => ?_)
  · obtain rfl : j = 0 := by omega
    rw [if_pos rfl] at hb
    refine rn ?_
    refine sBs tb 0 ?_ (hj := fun _ => ⟨rfl, by decide⟩)
    refine rn ?_
    refine sCall c51 (wbyte_ok w.heap.size w.heap.size [] 92 W hb (by decide) hx.size) ?_
    rintro _ W2 ⟨rfl, hb2, hx2⟩
    have hx02 : Ext w W2 := Below.trans (B := w.heap.size) hx hx2
    refine rn ?_
    refine sCall c51 (wbyte_ok w.heap.size w.heap.size [92] 34 W2 hb2 (by decide) hx02.size) ?_
    rintro _ W3 ⟨rfl, hb3, hx3⟩
    have hx03 : Ext w W3 := Below.trans (B := w.heap.size) hx02 hx3
    refine rn ?_
    refine sAd tb ?_
    refine rn ?_
    exact G.lp (x := 0) 1 (by repeat (first | exact Sub.nil _ | refine Sub.cons rfl ?_)) ⟨hx03, Nat.le_refl _, hb3⟩ (by omega)
  · obtain rfl : j = 1 := by omega
    refine rn ?_
    refine sCall c52 (bstr_ok w.heap.size w.heap.size [92, 34] W hb hx.size) ?_
    rintro _ W2 ⟨rfl, hx2⟩
    refine rn ?_
    refine G.ret1 rfl rfl rfl rfl ?_
    exact ⟨rfl, Below.trans (B := w.heap.size) hx hx2⟩
theorem wakes_ok (w : World) (hT : Tabs w) : Ret Tryz.prog 11 ⟨[]⟩ w fun r w' => r = .bool true ∧ Ext w w' := by
  refine ret_of_G Tryz.func11 rfl Tryz.ntmps11 rfl ?_
  simp only [argEnv]
  refine rn ?_
  have hn : ∀ t L, t <+: wakeT → sampleP Num.intP t = some L → L.labs.length ≤ 999 := by
    intro t L ht hL
    have h1 := (sampleP_len hL).1
    have h2 : t.length ≤ 13 := ht.length_le
    omega
  refine sCall c24 (readLine_ok w wakeT (by decide) hT hn) ?_
  rintro _ W1 ⟨hx1, ⟨L, v, out, ⟨_, hL, _, hnew⟩, rfl, ho⟩ | ⟨hbad, _⟩⟩
  rotate_left
  · exfalso
    rcases hbad with hbad | hbad | ⟨L, hL, hbad⟩
    · have := wake_nl; omega
    · rw [wake_line] at hbad; cases hbad
    · rw [wake_line] at hL
      cases hL
      rcases hbad with ⟨x, hx, hxn⟩ | ⟨_, e, out, he, hnew⟩
      · obtain rfl := List.mem_singleton.1 hx
        exact absurd hxn (by decide)
      · exact he (wake_new hnew).1
  · rw [wake_line] at hL
    cases hL
    have hlen := (wake_new hnew).2
    have hone : v.oneCell' = true := ho.sli.one v (List.mem_singleton.2 rfl)
    refine rn ?_
    refine sAl tb (fun W2 hb2 hs2 hx2 => ?_)
    refine sSt tb (fun W3 hb3 hw3 => ?_) (vs := linC v wakeL.val wakeL.time) (hv := rfl) (h1 := linC_one hone)
    have hx3 : Ext w W3 := (hx1.trans hx2).wr hw3 hx1.size
    have ho3 : Lab.LO W3 w.heap.size v out := (ho.to hx2).wr2 hw3 (fun e => by have := (ho.lt _ e.symm).2; omega)
    have hv3 := ho3.sli
    have hlo : (out.map Lab.labC).length = 2 := by rw [List.length_map, hlen]
    unfold linC at hb3
    refine rn ?_
    have hfc : fcmpB .eql wakeL.val 4611686018427387904 = some true := by kernel_rfl
    refine GL.cons (Step.fcmp rfl (Op1.of rfl (by first | exact fun _ => rfl | exact fun h => h | exact fun h => bL h | exact fun h => bL (bL h) | exact fun h => bL (bL (bL h)))) (Op1.of rfl (by first | exact fun _ => rfl | exact fun h => h | exact fun h => bL h | exact fun h => bL (bL h) | exact fun h => bL (bL (bL h)))) hfc rfl ?_)
    refine rn ?_
    refine sCallx c25 (fun hc => quote_ok W3) ?_
    intro W4 hx4
    refine rn ?_
    refine G.ret1 rfl rfl rfl rfl ?_
    refine ⟨?_, hx3.trans hx4⟩
    rw [hlo]
    rfl
end Go.Proofs.YtcngoccnfmhhnaaGreatDoor
end
section
namespace Go.Vg
open Go.RowKit
section
variable {X : Cx} {ops : Array Oper} {l : List Oper} {k : List Kt} {e : Env} {w : World} {N : Env → World → Prop} {d : Nat} {c : Option Bool} {ty : TypeId} {pos : String} {af : Array Edge} {g : Option (Nat × Bool)}
theorem Step.eqNN (T : Tb X.P) {xt yt et : TypeId} {x y : Operand} {n cap : Nat} (hg : guardE ops e ⟨some d, .binOp .eql xt x y yt, ty, pos, af, g⟩ = some c)
    (hx : Op1 e c x (.slice none n cap)) (hy : Op1 e c y (.slice none 0 0)) (ht : T.ty xt = some (.slice et)) (hn : Nat.blt d X.n = true)
    (h : N ((d, c, .bool true) :: e) w) : Step X ops ⟨some d, .binOp .eql xt x y yt, ty, pos, af, g⟩ e w N :=
  Step.quiet rfl (by simpa [Nat.blt_eq] using hn) hg (fun _ hh => by cases hh) (fun t hf hc => by
    have hT := T.ok _ _ ht
    have h1 : (eqGuard .eql xt x y (.slice none n cap) (.slice none 0 0)).run X.P w = .ok () w := by simp [eqGuard]
    have he := run_equal_slice_nil (P := X.P) w xt et none n cap hT
    have h2 : (binOp .eql xt (.slice none n cap) (.slice none 0 0)).run X.P w = .ok (.bool true) w := by
      simp only [binOp, Sem.run_bind, he, Sem.run_map, Result.andThen_ok, Sem.run_pure]; rfl
    simp only [execOp, hx.val hf hc, hy.val hf hc, Sem.run_bind, h1, h2, Result.andThen_ok, Sem.run_pure]) h
end
theorem bytesOf_nat (l : List UInt8) : Lib.bytesOf (l.map fun b => (b.toNat : Int)) = l := by
  unfold Lib.bytesOf
  rw [List.map_map]
  conv => rhs; rw [← List.map_id l]
  refine List.map_congr_left fun b _ => ?_
  simp
end Go.Vg
end
section
namespace Go.Vg
open Go.RowKit Go.WideShapes Go.ChangeShapes

theorem open_sli {H : Type} {enc : TypeId × Value → H} {P : Program} {w : World} {sp : Nat → Bool} {hd : Bool} {t e k b0 : Nat} {α : Type} {v : Value} {d : DataW H} {p : List MemPlace} (dec : α → List Value) (Q : α → Prop)
    (ht : P.underlying t = some (.slice e)) (hc : P.cellsOf e = k) (hel : ∀ n cs x, DataW.trod enc P w 0 sp hd n e cs = some x → ∃ a, cs = dec a ∧ Q a)
    (hval : Value.okWide P w .any b0 t v) (h : DataW.Trod enc P w 0 sp hd t v d p) : ∃ ls : List α, Sli w v k (ls.map dec) ∧ ∀ a ∈ ls, Q a := by
  have hspot : ∀ a l c, v = .slice (some a) l c → a.spot = none := by
    rintro a l c rfl
    simp only [Value.okWide, ht, Cell.okWide, Cell.ok, World.has] at hval
    exact hval.2.2.2.1
  obtain ⟨a0, len, cap, rfl⟩ := okWide_slice ht hval
  obtain ⟨fuel, h⟩ := h
  rcases Go.Deep.open_slice ht h with ⟨h1, _⟩ | ⟨a, len', cap', m, n, D, Pl, h1, hb, hl, hm, hmm, _, hx⟩
  · have h2 : Value.slice a0 len cap = .slice none 0 0 := by simpa [Value.cells] using h1
    exact ⟨[], .inl ⟨h2, rfl⟩, by simp⟩
  · have h2 : Value.slice a0 len cap = .slice (some a) len' cap' := by simpa [Value.cells] using h1
    cases h2
    have hlm : len ≤ m := by rw [hmm]; split <;> omega
    have each : ∀ i, i < len → ∃ x : α, w.cells? 0 (a.add (i * k)) k = some (dec x) ∧ Q x := by
      intro i hi
      obtain ⟨cs, h3, h4⟩ := hx i (by omega)
      rw [hc] at h3
      obtain ⟨x, rfl, hq⟩ := hel n cs _ h4
      exact ⟨x, h3, hq⟩
    have build : ∀ l, l ≤ len → ∃ ls : List α, ls.length = l ∧ (∀ i x, ls[i]? = some x → w.cells? 0 (a.add (i * k)) k = some (dec x) ∧ Q x) := by
      intro l
      induction l with
      | zero => intro _; exact ⟨[], rfl, by simp⟩
      | succ l ih =>
        intro hl'
        obtain ⟨ls, h5, h6⟩ := ih (by omega)
        obtain ⟨x, h7⟩ := each l (by omega)
        refine ⟨ls ++ [x], by simp [h5], fun i y hy => ?_⟩
        by_cases hi : i < ls.length
        · rw [List.getElem?_append_left hi] at hy; exact h6 i y hy
        · have hil : i = l := by
            have := (List.getElem?_eq_some_iff.1 hy).1
            simp at this; omega
          subst hil
          rw [List.getElem?_append_right (by omega), h5, Nat.sub_self] at hy
          cases hy; exact h7
    obtain ⟨ls, h5, h6⟩ := build len (Nat.le_refl _)
    refine ⟨ls, .inr ⟨a, cap, by rw [List.length_map, h5], hspot a len cap rfl, by rw [List.length_map, h5]; exact hl, ?_, ?_, ?_⟩, ?_⟩
    · intro x hx'
      obtain ⟨y, hy, rfl⟩ := List.mem_map.1 hx'
      obtain ⟨i, hi⟩ := List.getElem?_of_mem hy
      exact (World.cells?_some (h6 i y hi).1).2.1
    · intro i x hx' j u hu
      simp only [List.getElem?_map, Option.map_eq_some_iff] at hx'
      obtain ⟨y, hy, rfl⟩ := hx'
      obtain ⟨_, h8, h9⟩ := World.cells?_some (h6 i y hy).1
      have hj : j < k := by have := (List.getElem?_eq_some_iff.1 hu).1; omega
      have := h9 j hj
      rw [hu, Addr.add_add a (hspot a len cap rfl)] at this
      exact this
    · rw [List.length_map, h5]; unfold maxLen at hm; omega
    · intro x hx'
      obtain ⟨i, hi⟩ := List.getElem?_of_mem hx'
      exact (h6 i x hi).2
end Go.Vg
end
section
namespace Go.Vg
open Go.RowKit Go.WideShapes Go.ChangeShapes

/-- a value fits its type; kept folded -/
structure OkW (P : Program) (w : World) (b t : Nat) (v : Value) : Prop where
  ok : Value.okWide P w .any b t v
theorem open_rows {H : Type} {enc : TypeId × Value → H} {P : Program} {w : World} {sp : Nat → Bool} {hd : Bool} {t e k b0 : Nat} {α : Type} {v : Value} {d : DataW H} {p : List MemPlace} (dec : α → List Value) (Q : α → Prop)
    (ht : P.underlying t = some (.slice e)) (hc : P.cellsOf e = k) (hel : ∀ n cs x, DataW.trod enc P w 0 sp hd n e cs = some x → ∃ a, cs = dec a ∧ Q a)
    (hval : OkW P w b0 t v) (h : DataW.Trod enc P w 0 sp hd t v d p) : ∃ ls : List α, Sli w v k (ls.map dec) ∧ ∀ a ∈ ls, Q a := open_sli dec Q ht hc hel hval.ok h
theorem openI {H : Type} {enc : TypeId × Value → H} {P : Program} {w : World} {b : Nat} {sp : Nat → Bool} {hd : Bool} {t : Nat} {k : IntKind} {v : Value} {d : DataW H} {p : List MemPlace}
    (ht : P.underlying t = some (.int k)) (hval : OkW P w b t v) (h : DataW.Trod enc P w 0 sp hd t v d p) : ∃ n : Int, v = .int k n ∧ (Lit.int k n).wf = true := by
  obtain ⟨n, h1, _, _, h2⟩ := open_int ht hval.ok h; exact ⟨n, h1, h2⟩
theorem wf_u8 {n : Int} (h : (Lit.int .u8 n).wf = true) : 0 ≤ n ∧ n < 256 := by
  have e1 : IntKind.u8.min = 0 := by decide
  have e2 : IntKind.u8.max = 255 := by decide
  simp only [Lit.wf, Bool.and_eq_true, decide_eq_true_eq, e1, e2] at h
  omega
theorem open_int1 {H : Type} {enc : TypeId × Value → H} {P : Program} {w : World} {b : Nat} {sp : Nat → Bool} {hd : Bool} {t n : Nat} {k : IntKind} {cs : List Value} {x : DataW H × List MemPlace}
    (ht : P.underlying t = some (.int k)) (h : DataW.trod enc P w b sp hd n t cs = some x) : ∃ m : Int, cs = [.int k m] ∧ (Lit.int k m).wf = true := by
  obtain ⟨m, rfl, _, hl⟩ := DataW.trod_int ht h
  exact ⟨m, rfl, hl⟩
theorem trodAll_stays {H : Type} {enc : TypeId × Value → H} {P : Program} (hl : laidOutB P = true) {W W' : World} {sp : Nat → Bool} (hx : Below W.heap.size W W') :
    ∀ {ts : List TypeId} {vs : List Value} {ds : List (DataW H)} {ps : List MemPlace}, (ts.all fun t => P.readableRec t && decide (t < P.types.size)) = true → DataW.TrodAll enc P W 0 (fun _ => true) true ts vs ds ps →
      (∀ p ∈ ps, p.block < W.heap.size) → (∀ p ∈ ps, sp p.block = true) → DataW.TrodAll enc P W' 0 sp true ts vs ds ps
  | [], vs, ds, ps, _, h, _, _ => by
    obtain ⟨rfl, rfl, rfl⟩ := trodAll_nil h
    exact trodAll_mk0
  | t :: ts, vs, ds, ps, ht, h, hlt, hsp => by
    simp only [List.all_cons, Bool.and_eq_true, decide_eq_true_eq] at ht
    obtain ⟨v, vs, d, ds, p, q, rfl, rfl, rfl, h0, h1⟩ := trodAll_cons h
    have h0' := WideElems.Trod_stays (sp' := sp) hl ht.1.1 ht.1.2 h0 (fun x hx' => hx.same (hlt x (by simp [hx']))) (fun x hx' => hsp x (by simp [hx']))
    exact trodAll_cons_mk h0' (trodAll_stays hl hx ht.2 h1 (fun x hx' => hlt x (by simp [hx'])) (fun x hx' => hsp x (by simp [hx'])))

/-- a law's end: true, and every argument reads as it did -/
theorem law_post {H : Type} {enc : TypeId × Value → H} {P : Program} {f : Func} {s : ChangeSpec} {tb : TypeId} {W W' : World} {args : Array Value} {ds gs : List (DataW H)} {before : List MemPlace}
    (hl : laidOutB P = true) (hts : (f.params.toList.all fun t => P.readableRec t && decide (t < P.types.size)) = true) (hr : f.resultTypes = #[tb]) (htb : P.underlying tb = some .bool) (hv : s.vars = [])
    (hW : DataW.Whole enc P f.params.toList s.vars false W args.toList ds gs before)
    (hfn : s.fn H ds = { results := [.lit (.bool true)], args := ds })
    (hx : Below W.heap.size W W') : s.post enc P f false true false false W args (.bool true) W' := by
  have hlt : ∀ p ∈ before, p.block < W.heap.size := fun p hp => hW.lt p hp
  have hW' := hW
  obtain ⟨p, q, hA, hV, rfl, hz, hn⟩ := hW
  rw [hv] at hV
  obtain ⟨rfl, rfl⟩ := trodVars_none hV
  have hfn' : s.fn H (ds ++ []) = { results := [.lit (.bool true)], args := ds } := by rw [List.append_nil]; exact hfn
  have hA' : ∀ sp : Nat → Bool, (∀ x ∈ p ++ [], sp x.block = true) → DataW.TrodAll enc P W' 0 sp true f.params.toList args.toList (s.fn H (ds ++ [])).args p := by
    intro sp hsp
    rw [hfn']
    exact trodAll_stays hl hx hts hA (fun x hx' => hlt x (by simp [hx'])) (fun x hx' => hsp x (by simp [hx']))
  refine ⟨ds, [], p ++ [], [], p, [], hW', ?_, hA' _ (fun x hx' => by simpa using hlt x hx'), ?_, World.keptBut_mono (fun x hx' => ⟨hx', ?_⟩) (hx.frame (· ∈ p ++ [])), fun h => by cases h⟩
  · rw [hfn', hr]
    exact trodAll_cons_mk (shut_bool htb _) trodAll_mk0
  · rw [hv, hfn']; rfl
  · exact .inr (by simpa using hx')
end Go.Vg
end
section
open Go Go.Vg Go.RowKit Go.Proofs Go.Proofs.YtcngoccnfmhhnaaGreatDoor
namespace Go.Proofs.YtcngoccnfmhhnaaGreatDoor
open Go.Ex

/-- a separator of one line end -/
def Sep (w : World) (u : Value) : Prop := ∃ b d, u = .slice (some ⟨b, 0, none⟩) 1 d ∧ w.cell? ⟨b, 0, none⟩ = some (U 10) ∧ By w u [10]
theorem Sep.of {w w' : World} {B : Nat} {u : Value} (ho : Owns w B u 5 1 (bysC [10])) (hb : By w' u [10]) : Sep w' u := by
  rcases ho.1.2 with ⟨_, h0⟩ | ⟨g, cap, cur, rfl, hB, hg, _⟩
  · cases h0
  · have hb0 := hb
    rcases hb with ⟨h, _⟩ | ⟨a, cap', he, hsp, h3, h4, h5, h6⟩
    · cases h
    · simp only [Value.slice.injEq, Option.some.injEq] at he
      obtain ⟨rfl, _, _⟩ := he
      refine ⟨g, cap, rfl, ?_, hb0⟩
      have := h5 0 [U 10] rfl 0 (U 10) rfl
      rw [Addr.add_lit] at this
      exact this
theorem index_ok (v u : Value) (s : List UInt8) (w : World) (hv : By w v s) (hne : s ≠ []) (hu : Sep w u) :
    Ret Tryz.prog 47 ⟨[v, u]⟩ w fun r w' => r = .int .i64 (nlI s) ∧ w' = w := by
  obtain ⟨b, d, rfl, hc, -⟩ := hu
  rcases hv with ⟨_, h⟩ | ⟨a, cap, rfl, hsp, h3, h4, h5, h6⟩
  · cases s with
    | nil => exact absurd rfl hne
    | cons c l => cases h
  · have hl := bysC_len s
    refine Calls.mono (Any.bytes_Index_one_at Tryz.lays185 a (bysC s).length cap b 0 d (s.map fun b => (b.toNat : Int)) 10 w (by simp [hl]) ?_ hc) fun _ _ ⟨he, hw⟩ => ⟨_, he, ?_, hw⟩
    · intro i hi
      rw [hl] at hi
      have h := h5 i [U (s.getD i 0)] (bysC_get hi) 0 _ rfl
      rw [Nat.mul_one, Nat.add_zero] at h
      rw [h]
      simp [U, List.getD_eq_getElem?_getD, List.getElem?_map, List.getElem?_eq_getElem hi]
    · rw [bytesOf_nat]; rfl
/-- what bytes.Cut gives -/
def cutBV (v : Value) (s : List UInt8) : Value := if 0 ≤ nlI s then .tuple ⟨[subS v 1 0 (nlI s).toNat, subS v 1 ((nlI s).toNat + 1) s.length, .bool true]⟩ else .tuple ⟨[v, .slice none 0 0, .bool false]⟩
theorem cutB_ok (v u : Value) (s : List UInt8) (w : World) (hv : By w v s) (hne : s ≠ []) (hu : Sep w u) (hs : s.length ≤ 1000000000) :
    Ret Tryz.prog 23 ⟨[v, u]⟩ w fun r w' => r = cutBV v s ∧ Ext w w' := by
  refine ret_of_G Tryz.func23 rfl Tryz.ntmps23 rfl ?_
  simp only [argEnv]
  refine rn ?_
  have hge := nlI_ge s
  have hlt : ∀ i : Nat, nlI s = i → i < s.length := fun i h => nlI_lt h
  have hix := index_ok v u s w hv hne hu
  have hcv : cutBV v s = if 0 ≤ nlI s then .tuple ⟨[subS v 1 0 (nlI s).toNat, subS v 1 ((nlI s).toNat + 1) s.length, .bool true]⟩ else .tuple ⟨[v, .slice none 0 0, .bool false]⟩ := rfl
  generalize nlI s = n at hge hlt hix hcv
  rw [hcv]
  have hl := bysC_len s
  obtain ⟨ub, ud, hue, hc2, hub⟩ := hu
  have hl1 : (bysC ([10] : List UInt8)).length = 1 := rfl
  refine sCall c47 (hix) ?_
  rintro _ W ⟨rfl, hW⟩
  obtain rfl : w = W := hW.symm
  refine rn ?_
  first | refine G.condD rfl (fun hc => ?_) (fun hc => ?_) | refine G.condN rfl (fun hc => ?_) (fun hc => ?_) | refine G.cond rfl (fun hc => ?_) (fun hc => ?_)
  · obtain ⟨i, rfl⟩ : ∃ i : Nat, n = i := ⟨n.toNat, by omega⟩
    have hi := hlt i rfl
    rw [if_pos hc]
    refine rn ?_
    refine G.regionM [(0, true), (1, true), (2, true), (3, true), (4, true), (5, true), (6, true), (7, true), (8, true), (9, true), (10, true), (11, true)] (Ext w) (by kernel_rfl) (by kernel_rfl) rfl mixed (Ext.drew w) rfl ?_
    refine rd ?_
    refine GM.read (fun w' hS => Step.sliceVh tb i rfl (Op1.of rfl (by first | exact fun _ => rfl | exact fun h => h | exact fun h => bL h | exact fun h => bL (bL h) | exact fun h => bL (bL (bL h)))) (Op1.of rfl (by first | exact fun _ => rfl | exact fun h => h | exact fun h => bL h | exact fun h => bL (bL h) | exact fun h => bL (bL (bL h)))) rfl rfl (fun _ => ⟨_, hv⟩) (fun _ => ⟨rfl, by omega⟩) rfl ⟨rfl, rfl⟩) rfl rfl ?_
    refine rd ?_
    refine dAd tb (r := ((i + 1 : Nat) : Int)) ?_ (hp := by show IntKind.i64.wrap _ = _; rw [wrap_i64 (by omega) (by omega)]; omega)
    refine rd ?_
    refine GM.read (fun w' hS => Step.sliceVl tb (i + 1) rfl (Op1.of rfl (by first | exact fun _ => rfl | exact fun h => h | exact fun h => bL h | exact fun h => bL (bL h) | exact fun h => bL (bL (bL h)))) (Op1.of rfl (by first | exact fun _ => rfl | exact fun h => h | exact fun h => bL h | exact fun h => bL (bL h) | exact fun h => bL (bL (bL h)))) rfl rfl (fun _ => ⟨_, hv⟩) (fun _ => ⟨rfl, by omega⟩) rfl ⟨rfl, rfl⟩) rfl rfl ?_
    refine rd ?_
    refine GM.nil ?_
    refine rn ?_
    refine G.ret3 rfl rfl rfl rfl rfl rfl ?_
    exact ⟨by rw [hl]; simp, Ext.drew w⟩
  · rw [if_neg hc]
    refine rn ?_
    refine G.ret3 rfl rfl rfl rfl rfl rfl ?_
    exact ⟨rfl, Ext.refl _⟩
theorem clone_ok (v : Value) (s : List UInt8) (w : World) (hv : By w v s) (hs : s.length ≤ 1000000000) :
    Ret Tryz.prog 21 ⟨[v]⟩ w fun r w' => Owns w' w.heap.size r 5 1 (bysC s) ∧ Ext w w' := by
  have hv0 := hv
  rcases hv with ⟨rfl, h⟩ | ⟨a, cap, rfl, hsp, h3, h4, h5, h6⟩
  · (refine ret_of_G Tryz.func21 rfl Tryz.ntmps21 rfl ?_; simp only [argEnv])
    refine rn ?_
    refine GL.cons (Step.eqNN tb rfl (Op1.of rfl (by first | exact fun _ => rfl | exact fun h => h | exact fun h => bL h | exact fun h => bL (bL h) | exact fun h => bL (bL (bL h)))) (Op1.of rfl (by first | exact fun _ => rfl | exact fun h => h | exact fun h => bL h | exact fun h => bL (bL h) | exact fun h => bL (bL (bL h)))) rfl rfl ?_)
    refine rn ?_
    refine G.ret1 rfl rfl rfl rfl ?_
    exact ⟨by rw [h]; exact Owns.nil _ _ _ _, Ext.refl _⟩
  · (refine ret_of_G Tryz.func21 rfl Tryz.ntmps21 rfl ?_; simp only [argEnv])
    refine rn ?_
    refine GL.cons (Step.eqSN tb rfl (Op1.of rfl (by first | exact fun _ => rfl | exact fun h => h | exact fun h => bL h | exact fun h => bL (bL h) | exact fun h => bL (bL (bL h)))) (Op1.of rfl (by first | exact fun _ => rfl | exact fun h => h | exact fun h => bL h | exact fun h => bL (bL h) | exact fun h => bL (bL (bL h)))) rfl rfl ?_)
    refine rn ?_
    refine sBs' tb [] ?_ (hkl := by simp)
    intro v1 w1 ho1 hs1 hx1
    refine rn ?_
    refine sApp tb ho1 (hv0.to hx1) (fun v' W2 hv2 hg2 => ?_) (h1 := bysC_one s) (hb := by simp only [bysC_len, List.length_nil]; omega) (hl := by simp only [bysC_len, List.length_nil]; omega) (hB := by omega)
    refine rn ?_
    refine G.ret1 rfl rfl rfl rfl ?_
    exact ⟨hv2, Below.trans (B := w.heap.size) hx1 hg2.bl⟩
theorem lines_ok (v : Value) (s : List UInt8) (w : World) (hv : By w v s) (hs : s.length ≤ 1000000000) :
    Ret Tryz.prog 9 ⟨[v]⟩ w fun r w' => ∃ b v', r = .func (.func 22) #[] ⟨[ptr b]⟩ ∧ w.heap.size ≤ b ∧ Bx w' b [v'] ∧ Owns w' w.heap.size v' 5 1 (bysC s) ∧ Ext w w' := by
  refine ret_of_G Tryz.func9 rfl Tryz.ntmps9 rfl ?_
  simp only [argEnv]
  refine rn ?_
  refine sBox (fun w1 hb1 hs1 hx1 => ?_) (hv := hv.cells)
  refine rn ?_
  refine sCall c21 (clone_ok v s w1 (hv.to hx1) hs) ?_
  rintro v2 w2 ⟨hv2, hx2⟩
  have hb2 := hb1.to hx2
  refine rn ?_
  refine sSt tb (fun w3 hb3 hw3 => ?_) (vs := [v2]) (hv := hv2.cells) (h1 := hv2.sli.one)
  refine rn ?_
  refine G.ret1 rfl rfl rfl rfl ?_
  have hz2 := hx2.size
  have hx3 : Ext w w3 := (hx1.trans hx2).wr hw3 (by omega)
  exact ⟨_, _, rfl, Nat.le_refl _, hb3, (hv2.kp hw3.kp (by omega)).mono (by omega), hx3⟩
/-- lines with their numbers, as they are told -/
def lnC : Nat → List (List UInt8) → List (List Value)
  | _, [] => []
  | k, l :: r => [.int .i64 k, S l] :: lnC (k + 1) r
theorem lnC_len : ∀ (ls : List (List UInt8)) (k : Nat), (lnC k ls).length = ls.length
  | [], _ => rfl
  | _ :: r, k => by simp [lnC, lnC_len r (k + 1)]
theorem lnC_get : ∀ (ls : List (List UInt8)) (k i : Nat) (x : List UInt8), ls[i]? = some x → (lnC k ls)[i]? = some [.int .i64 ((k + i : Nat) : Int), S x]
  | [], _, _, _, h => by simp at h
  | l :: r, k, 0, x, h => by simp only [List.getElem?_cons_zero, Option.some.injEq] at h; subst h; rfl
  | l :: r, k, i + 1, x, h => by
    have := lnC_get r (k + 1) i x (by simpa using h)
    simp only [lnC, List.getElem?_cons_succ]
    rw [this, show k + 1 + i = k + (i + 1) by omega]
theorem cut_parts (v u : Value) (s rest : List UInt8) (hsub : ∀ W', By W' v s → By W' u rest) (hne : rest ≠ []) : ∃ u1 u2 fb L1 rest', cutBV u rest = .tuple ⟨[u1, u2, .bool fb]⟩ ∧ (∀ W', By W' v s → By W' u1 L1) ∧ (∀ W', By W' v s → By W' u2 rest') ∧ linesP rest = L1 :: linesP rest' ∧ rest'.length ≤ rest.length := by
  unfold cutBV
  by_cases h0 : 0 ≤ nlI rest
  · rw [if_pos h0]
    obtain ⟨i, hi⟩ : ∃ i : Nat, nlI rest = i := ⟨(nlI rest).toNat, by omega⟩
    have hil := nlI_lt hi
    rw [hi, Int.toNat_natCast]
    have hlr : (bysC rest).length = rest.length := bysC_len _
    refine ⟨_, _, true, rest.take i, rest.drop (i + 1), rfl, ?_, ?_, linesP_cut hi, by rw [List.length_drop]; omega⟩
    · intro W' hW'
      have := Sli.sub (hsub W' hW') (l := 0) (h := i) (Nat.zero_le _) (by omega)
      rw [List.drop_zero, Nat.sub_zero] at this
      show Sli _ _ _ (List.map _ _)
      rw [List.map_take]
      exact this
    · intro W' hW'
      have := Sli.sub (hsub W' hW') (l := i + 1) (h := rest.length) (by omega) (by omega)
      rw [List.take_of_length_le (by rw [List.length_drop]; omega)] at this
      show Sli _ _ _ (List.map _ _)
      rw [List.map_drop]
      exact this
  · rw [if_neg h0]
    have h1 : Lib.indexByte rest 10 < 0 := by
      have : nlI rest < 0 := by omega
      exact this
    exact ⟨_, _, false, rest, [], rfl, hsub, fun W' _ => Sli.nil _ _, linesP_last h1 hne, Nat.zero_le _⟩
theorem lines1_ok (v : Value) (s : List UInt8) (b : Nat) (hs : s.length ≤ 1000000000) : IterOk Tryz.prog 22 [ptr b] (lnC 1 (linesP s)) (fun W => CellAt W (ptr b) v ∧ By W v s) := by
  intro l I St w hD hI hSt h0 hY
  refine ret_of_G Tryz.func22 rfl Tryz.ntmps22 rfl ?_
  simp only [argEnv]
  have h0' := hD 0 w h0
  have hll := (linesP_len s).1
  refine rn ?_
  refine sLd tb ?_ (hc := fun _ => h0'.1)
  refine rn ?_
  refine (G.loop (fun x : Nat × Value => [(0, none, yieldV l), (3, none, x.2), (4, none, .int .i64 ((x.1 : Int) + 1))]) (fun x W => I x.1 W ∧ x.1 ≤ (linesP s).length ∧ ∃ rest : List UInt8, rest.length ≤ s.length ∧ (∀ W', By W' v s → By W' x.2 rest) ∧ (linesP s).drop x.1 = linesP rest) (fun x => (linesP s).length - x.1) (0, v) (by repeat (first | exact Sub.nil _ | refine Sub.cons rfl ?_)) ⟨h0, Nat.zero_le _, s, Nat.le_refl _, fun _ h => h, rfl⟩ ?_)
  clear h0'
  rintro ⟨k, u⟩ W ⟨hIk, hk, rest, hrl, hsub, hdr⟩
  simp only at hIk hk hsub hdr ⊢
  have hDk := hD k W hIk
  have hu := hsub W hDk.2
  have hlr : (bysC rest).length = rest.length := bysC_len _
  refine rn ?_
  first | refine G.condD rfl (fun hc => ?_) (fun hc => ?_) | refine G.condN rfl (fun hc => ?_) (fun hc => ?_) | refine G.cond rfl (fun hc => ?_) (fun hc => ?_)
  · have hrp : 0 < rest.length := by omega
    have hne : rest ≠ [] := by
      intro e; rw [e] at hrp; simp at hrp
    obtain ⟨u1, u2, fb, L1, rest', hcv, hb1, hb2, hlp, hrl2⟩ := cut_parts v u s rest hsub hne
    have hlt : k < (linesP s).length := by
      have := congrArg List.length hdr
      rw [hlp] at this
      simp only [List.length_drop, List.length_cons] at this
      omega
    have hget : (linesP s)[k]? = some L1 := by
      have := congrArg (fun l => l[0]?) hdr
      rw [hlp] at this
      simpa using this
    have hdr2 : (linesP s).drop (k + 1) = linesP rest' := by
      have := congrArg (List.drop 1) hdr
      rw [hlp] at this
      simpa using this
    refine rn ?_
    refine sBs' tb (bysC [10]) ?_ (hkl := bysC_k _)
    intro v1 w1 ho1 hs1 hx1
    refine GL.cons (Step.markS tb rfl (Op1.of rfl (by first | exact fun _ => rfl | exact fun h => h | exact fun h => bL h | exact fun h => bL (bL h) | exact fun h => bL (bL (bL h)))) rfl rfl ho1 (by decide) rfl ?_)
    intro w2 hv2 hx2
    have hx02 : Ext W w2 := Below.trans hx1 hx2
    have hI2 := hI _ _ _ hIk hx02
    have hu2 := hu.to hx02
    have hct := cutB_ok u v1 rest w2 hu2 hne (Sep.of ho1 hv2) (by omega)
    rw [hcv] at hct
    refine sCall c23 (hct) ?_
    rintro _ w3 ⟨rfl, hx3⟩
    have hI3 := hI _ _ _ hI2 hx3
    have hD3 := (hD _ _ hI3).2
    have h13 : By w3 u1 L1 := hb1 w3 hD3
    clear hct hu2 hu ho1 hv2
    refine rn ?_
    refine sByS tb h13 ?_
    refine rn ?_
    refine GL.cons (Step.yield rfl (Op1.of rfl (by first | exact fun _ => rfl | exact fun h => h | exact fun h => bL h | exact fun h => bL (bL h) | exact fun h => bL (bL (bL h)))) rfl rfl rfl (hY k _ w3 (by
      have := lnC_get (linesP s) 1 k L1 hget
      rw [this]
      show some [Value.int .i64 ((1 + k : Nat) : Int), S L1] = some [Value.int .i64 ((k : Int) + 1), S L1]
      rw [show ((1 + k : Nat) : Int) = (k : Int) + 1 by omega]) hI3) ?_)
    intro bb w4 hR
    cases bb with
    | true =>
      refine rn ?_
      refine sAd tb ?_
      refine rn ?_
      exact G.lp (x := (k, u)) (k + 1, u2) (by repeat (first | exact Sub.nil _ | refine Sub.cons rfl ?_)) ⟨hR, by show k + 1 ≤ _; omega, rest', by omega, hb2, hdr2⟩ (by show (linesP s).length - (k + 1) < (linesP s).length - k; omega)
    | false =>
      refine rn ?_
      exact G.ret0 rfl rfl rfl (.inr hR)
  · refine rn ?_
    have hre : rest = [] := List.eq_nil_of_length_eq_zero (by omega)
    subst hre
    rw [linesP_nil] at hdr
    have := congrArg List.length hdr
    simp only [List.length_drop, List.length_nil] at this
    obtain rfl : k = (linesP s).length := by omega
    exact G.end0 rfl rfl rfl (.inl (by rw [lnC_len]; exact hIk))
end Go.Proofs.YtcngoccnfmhhnaaGreatDoor
end
section
namespace Go.Ex
structure RSt (α : Type) where
  smps : List α
  fams : List Fam
section
variable {α : Type} (metB : List UInt8 → Bool) (lineR : List UInt8 → Option α) (lim : Int)
/-- one line -/
def stepR (st : RSt α) (s : List UInt8) : Except Int (RSt α) :=
  match skipB s with
  | [] => .ok st
  | c :: t => if c = 35 then match saysP metB t with
      | none => .ok st
      | some x => if saidOk x then .ok ⟨st.smps, famPut st.fams x⟩ else .error 8
    else match lineR s with
      | none => .error 8
      | some a => if lim ≤ st.smps.length then .error 11 else .ok ⟨st.smps ++ [a], st.fams⟩
/-- lines, the next one's number being k -/
def readR : Nat → RSt α → List (List UInt8) → Except (Nat × Int) (RSt α)
  | _, st, [] => .ok st
  | k, st, s :: r => match stepR metB lineR lim st s with
    | .error e => .error (k, e)
    | .ok st' => readR (k + 1) st' r
end
section
variable {α : Type} {metB : List UInt8 → Bool} {lineR : List UInt8 → Option α} {lim : Int}
theorem stepR_nil {st : RSt α} {s : List UInt8} (h : skipB s = []) : stepR metB lineR lim st s = .ok st := by
  unfold stepR; rw [h]
theorem stepR_said {st : RSt α} {s t : List UInt8} {c : UInt8} (h : skipB s = c :: t) (hc : c = 35) : stepR metB lineR lim st s = match saysP metB t with
    | none => .ok st
    | some x => if saidOk x then .ok ⟨st.smps, famPut st.fams x⟩ else .error 8 := by
  unfold stepR; rw [h]; simp only; rw [if_pos hc]
theorem stepR_smp {st : RSt α} {s t : List UInt8} {c : UInt8} (h : skipB s = c :: t) (hc : c ≠ 35) : stepR metB lineR lim st s = match lineR s with
    | none => .error 8
    | some a => if lim ≤ st.smps.length then .error 11 else .ok ⟨st.smps ++ [a], st.fams⟩ := by
  unfold stepR; rw [h]; simp only; rw [if_neg hc]
theorem famPut_len (l : List Fam) (x : Said) : (famPut l x).length ≤ l.length + 1 := by
  have := (famAt_put l x []).2
  rw [this]
  unfold fam1
  split <;> simp
end
theorem saysP_len {metB : List UInt8 → Bool} {s : List UInt8} {x : Said} (h : saysP metB s = some x) : x.rest.length ≤ s.length := by
  unfold saysP at h
  split at h
  · cases h
  · split at h
    · cases h
    · rename_i wd l1 h1
      have e0 := skipB_len s
      have e1 := tokP_len h1
      split at h
      · cases h
      · split at h
        · cases h
        · split at h
          · cases h
          · rename_i nm l2 h2
            have e2 := nameP_len h2
            have e3 := skipB_len l1
            have e4 := skipB_len l2
            split at h
            · cases h
            · split at h
              · cases h
                show (skipB l2).length ≤ _
                omega
              · cases h
end Go.Ex
end
section
open Go Go.Vg Go.RowKit Go.Proofs Go.Proofs.YtcngoccnfmhhnaaGreatDoor
namespace Go.Proofs.YtcngoccnfmhhnaaGreatDoor.Lab

def u8N (n b0 b1 b2 b3 : Nat) : Nat :=
  if b0 < 128 then 1
  else if b0 / 32 = 6 then (if 1 < n ∧ b1 / 64 = 2 ∧ 128 ≤ b0 % 32 * 64 + b1 % 64 then 2 else 0)
  else if b0 / 16 = 14 then (if 2 < n ∧ b1 / 64 = 2 ∧ b2 / 64 = 2 ∧ 2048 ≤ b0 % 16 * 4096 + b1 % 64 * 64 + b2 % 64 ∧ ¬ (55296 ≤ b0 % 16 * 4096 + b1 % 64 * 64 + b2 % 64 ∧ b0 % 16 * 4096 + b1 % 64 * 64 + b2 % 64 ≤ 57343) then 3 else 0)
  else if b0 / 8 = 30 then (if 3 < n ∧ b1 / 64 = 2 ∧ b2 / 64 = 2 ∧ b3 / 64 = 2 ∧ 65536 ≤ b0 % 8 * 262144 + b1 % 64 * 4096 + b2 % 64 * 64 + b3 % 64 ∧ b0 % 8 * 262144 + b1 % 64 * 4096 + b2 % 64 * 64 + b3 % 64 ≤ 1114111 then 4 else 0)
  else 0

theorem u8N_decode (n b0 b1 b2 b3 : Nat) : (u8N n b0 b1 b2 b3 = 0 ∧ Lib.decodeN n b0 b1 b2 b3 = (65533, 1)) ∨ (u8N n b0 b1 b2 b3 ≠ 0 ∧ (Lib.decodeN n b0 b1 b2 b3).2 = u8N n b0 b1 b2 b3 ∧ ¬ ((Lib.decodeN n b0 b1 b2 b3).1 = 65533 ∧ (Lib.decodeN n b0 b1 b2 b3).2 = 1)) := by
  unfold u8N Lib.decodeN
  repeat' split
  all_goals first | (exfalso; omega) | (left; exact ⟨rfl, rfl⟩) | (right; refine ⟨by omega, rfl, ?_⟩; simp only; omega)

theorem byteN (s : List UInt8) (i : Nat) : byteI s i = (((s.getD i 0).toNat : Nat) : Int) := rfl
set_option maxHeartbeats 1000000 in
theorem u8len_N (s : List UInt8) (i : Nat) (hi : i < s.length) : u8len s i = u8N (s.length - i) (s.getD i 0).toNat (s.getD (i + 1) 0).toNat (s.getD (i + 2) 0).toNat (s.getD (i + 3) 0).toNat := by
  have h0 := (s.getD i 0).toNat_lt
  have h1 := (s.getD (i + 1) 0).toNat_lt
  have h2 := (s.getD (i + 2) 0).toNat_lt
  have h3 := (s.getD (i + 3) 0).toNat_lt
  unfold u8len
  rw [byteN]
  have e1 := byteN s (i + 1)
  have e2 := byteN s (i + 2)
  have e3 := byteN s (i + 3)
  generalize (s.getD i 0).toNat = b0 at h0 ⊢
  generalize (s.getD (i + 1) 0).toNat = b1 at h1 e1 ⊢
  generalize (s.getD (i + 2) 0).toNat = b2 at h2 e2 ⊢
  generalize (s.getD (i + 3) 0).toNat = b3 at h3 e3 ⊢
  obtain ⟨n, hn⟩ : ∃ n, n = s.length - i := ⟨_, rfl⟩
  rw [← hn]
  unfold lead
  by_cases c4 : 240 ≤ b0 ∧ b0 < 248
  · rw [if_pos (by omega)]
    simp only [u8n, show (4 - 1 : Nat) = 3 from rfl, contTo, Nat.zero_add, e1, e2, e3]
    unfold u8N badRune
    rw [if_neg (by omega : ¬ b0 < 128), if_neg (by omega : ¬ b0 / 32 = 6), if_neg (by omega : ¬ b0 / 16 = 14), if_pos (by omega : b0 / 8 = 30)]
    by_cases hl : s.length < i + 4
    · rw [if_pos hl, if_neg (by omega)]
    · rw [if_neg hl]
      by_cases k1 : (b1 : Int) < 128 ∨ 192 ≤ (b1 : Int)
      · simp only [k1, if_true]; rw [if_neg (by omega)]
      · simp only [k1, if_false]
        by_cases k2 : (b2 : Int) < 128 ∨ 192 ≤ (b2 : Int)
        · simp only [k2, if_true]; rw [if_neg (by omega)]
        · simp only [k2, if_false]
          by_cases k3 : (b3 : Int) < 128 ∨ 192 ≤ (b3 : Int)
          · simp only [k3, if_true]; rw [if_neg (by omega)]
          · simp only [k3, if_false, Bool.or_eq_true, Bool.and_eq_true, decide_eq_true_eq]
            split <;> split <;> first | rfl | (exfalso; omega)
  · rw [if_neg (by omega)]
    by_cases c3 : 224 ≤ b0 ∧ b0 < 240
    · rw [if_pos (by omega)]
      simp only [u8n, show (3 - 1 : Nat) = 2 from rfl, contTo, Nat.zero_add, e1, e2]
      unfold u8N badRune
      rw [if_neg (by omega : ¬ b0 < 128), if_neg (by omega : ¬ b0 / 32 = 6), if_pos (by omega : b0 / 16 = 14)]
      by_cases hl : s.length < i + 3
      · rw [if_pos hl, if_neg (by omega)]
      · rw [if_neg hl]
        by_cases k1 : (b1 : Int) < 128 ∨ 192 ≤ (b1 : Int)
        · simp only [k1, if_true]; rw [if_neg (by omega)]
        · simp only [k1, if_false]
          by_cases k2 : (b2 : Int) < 128 ∨ 192 ≤ (b2 : Int)
          · simp only [k2, if_true]; rw [if_neg (by omega)]
          · simp only [k2, if_false, Bool.or_eq_true, Bool.and_eq_true, decide_eq_true_eq]
            split <;> split <;> first | rfl | (exfalso; omega)
    · rw [if_neg (by omega)]
      by_cases c2 : 192 ≤ b0 ∧ b0 < 224
      · rw [if_pos (by omega)]
        simp only [u8n, show (2 - 1 : Nat) = 1 from rfl, contTo, Nat.zero_add, e1]
        unfold u8N badRune
        rw [if_neg (by omega : ¬ b0 < 128), if_pos (by omega : b0 / 32 = 6)]
        by_cases hl : s.length < i + 2
        · rw [if_pos hl, if_neg (by omega)]
        · rw [if_neg hl]
          by_cases k1 : (b1 : Int) < 128 ∨ 192 ≤ (b1 : Int)
          · simp only [k1, if_true]; rw [if_neg (by omega)]
          · simp only [k1, if_false, Bool.or_eq_true, Bool.and_eq_true, decide_eq_true_eq]
            split <;> split <;> first | rfl | (exfalso; omega)
      · rw [if_neg (by omega)]
        by_cases c1 : 128 ≤ b0
        · rw [if_pos (by omega)]
          unfold u8N
          rw [if_neg (by omega : ¬ b0 < 128), if_neg (by omega : ¬ b0 / 32 = 6), if_neg (by omega : ¬ b0 / 16 = 14), if_neg (by omega : ¬ b0 / 8 = 30)]
        · rw [if_neg (by omega)]
          simp only [u8n, show (1 - 1 : Nat) = 0 from rfl, contTo]
          unfold u8N badRune
          rw [if_pos (by omega : b0 < 128), if_neg (by omega), if_neg (by simp; omega)]

theorem getD_drop (s : List UInt8) (i k : Nat) : (s.drop i).getD k 0 = s.getD (i + k) 0 := by simp [List.getD]
theorem validGo_D (s : List UInt8) : ∀ (m i : Nat), s.length - i = m → i ≤ s.length → validGo s (s.length - i) i = Lib.validD (s.drop i) := by
  intro m
  induction m using Nat.strongRecOn with
  | _ m ih =>
    intro i hm hi
    by_cases he : i = s.length
    · subst he
      rw [List.drop_length, Lib.validD_nil, validGo_end _ _ _ (Nat.le_refl _)]
    · have hlt : i < s.length := by omega
      have hne : s.drop i ≠ [] := by intro h; rw [List.drop_eq_nil_iff] at h; omega
      rw [Lib.validD_step _ hne, Lib.decodeL_N, getD_drop, getD_drop, getD_drop, getD_drop, List.length_drop, Nat.add_zero]
      have hN := u8len_N s i hlt
      rcases u8N_decode (s.length - i) (s.getD i 0).toNat (s.getD (i + 1) 0).toNat (s.getD (i + 2) 0).toNat (s.getD (i + 3) 0).toNat with ⟨h1, h2⟩ | ⟨h1, h2, h3⟩
      · rw [h1] at hN
        rw [h2, validGo_no hlt hN]; simp
      · rw [← hN] at h1 h2
        have hle := u8len_le s i hi
        rw [if_neg h3, h2, validGo_step hlt h1, ih (s.length - (i + u8len s i)) (by omega) (i + u8len s i) rfl hle, List.drop_drop]
theorem validU_D (s : List UInt8) : validU s = Lib.validD s := by
  have := validGo_D s s.length 0 (by omega) (by omega)
  simpa [validU] using this
end Go.Proofs.YtcngoccnfmhhnaaGreatDoor.Lab
end
section
open Go Go.Vg Go.RowKit Go.Proofs Go.Proofs.YtcngoccnfmhhnaaGreatDoor
namespace Go.Proofs.YtcngoccnfmhhnaaGreatDoor.Lab

theorem okB_fair (x : Lab) : okB x = fairB x := by
  unfold okB fairB rightV
  rw [validU_D]
  cases namedB false x.1 <;> cases Lib.validD x.2 <;> by_cases h : (x.2.length : Int) ≤ 1024 <;> simp [h] <;> omega

theorem putL_perm (l : List Lab) (x : Lab) : (putL l x).Perm (l ++ [x]) := by
  unfold putL
  have h := List.takeWhile_append_dropWhile (p := fun y => Op.bytesLess y.1 x.1) (l := l)
  have h1 : (x :: l.dropWhile fun y => Op.bytesLess y.1 x.1).Perm ((l.dropWhile fun y => Op.bytesLess y.1 x.1) ++ [x]) := (List.perm_append_singleton x _).symm
  refine (List.Perm.append_left _ h1).trans ?_
  rw [← List.append_assoc, h]
theorem foldN_perm (ls : List Lab) : (foldN ls).1.Perm (keptL ls) := by
  suffices h : ∀ n, ∀ ls : List Lab, ls.length = n → (foldN ls).1.Perm (keptL ls) from h _ ls rfl
  intro n
  induction n with
  | zero => intro ls h; rw [List.eq_nil_of_length_eq_zero h]; exact List.Perm.refl _
  | succ n ih =>
    intro ls h
    have hne : ls ≠ [] := by intro e; subst e; cases h
    obtain ⟨r, x, rfl⟩ : ∃ r x, ls = r ++ [x] := ⟨ls.dropLast, ls.getLast hne, (List.dropLast_concat_getLast hne).symm⟩
    have hr := ih r (by simpa using h)
    rw [foldN_snoc, keptL_snoc]
    unfold stepN
    by_cases hx : x.2 = []
    · rw [if_pos hx, if_pos hx]; exact hr
    · rw [if_neg hx, if_neg hx]
      exact (putL_perm _ x).trans (List.Perm.append_right _ hr)
theorem dw_sorted {l : List Lab} {x : Lab} (h : sortedL l) : ∀ y ∈ l.dropWhile (fun y => Op.bytesLess y.1 x.1), Op.bytesLess y.1 x.1 = false := by
  induction l with
  | nil => simp
  | cons a r ih =>
    intro y hy
    unfold sortedL at h
    rw [List.pairwise_cons] at h
    cases ha : Op.bytesLess a.1 x.1 with
    | true => simp only [List.dropWhile_cons, ha, if_true] at hy; exact ih h.2 y hy
    | false =>
      simp only [List.dropWhile_cons, ha, Bool.false_eq_true, if_false] at hy
      rcases List.mem_cons.1 hy with rfl | hy
      · exact ha
      · have h1 := h.1 y hy
        rw [Bool.eq_false_iff]
        intro h2
        rcases bl_not h1 with e | e
        · rw [e, h2] at ha; cases ha
        · have := bl_trans e h2; rw [this] at ha; cases ha
theorem tw_all {l : List Lab} {x : Lab} : ∀ y ∈ l.takeWhile (fun y => Op.bytesLess y.1 x.1), Op.bytesLess y.1 x.1 = true := by
  induction l with
  | nil => simp
  | cons a r ih =>
    intro y hy
    cases ha : Op.bytesLess a.1 x.1 with
    | true =>
      simp only [List.takeWhile_cons, ha, if_true] at hy
      rcases List.mem_cons.1 hy with rfl | hy
      · exact ha
      · exact ih y hy
    | false => simp only [List.takeWhile_cons, ha, Bool.false_eq_true, if_false] at hy; cases hy
theorem putL_sorted {l : List Lab} {x : Lab} (h : sortedL l) : sortedL (putL l x) := by
  have hd := dw_sorted (x := x) h
  have ht := tw_all (l := l) (x := x)
  unfold sortedL putL at *
  have hs := List.takeWhile_append_dropWhile (p := fun y => Op.bytesLess y.1 x.1) (l := l)
  rw [← hs, List.pairwise_append] at h
  rw [List.pairwise_append]
  refine ⟨h.1, List.pairwise_cons.2 ⟨hd, h.2.1⟩, ?_⟩
  intro a ha b hb
  rcases List.mem_cons.1 hb with rfl | hb
  · exact bl_asymm (ht a ha)
  · exact h.2.2 a ha b hb
theorem foldN_sorted (ls : List Lab) : sortedL (foldN ls).1 := by
  suffices h : ∀ (l : List Lab) (s : List Lab × Bool), sortedL s.1 → sortedL (l.foldl stepN s).1 from h ls ([], false) List.Pairwise.nil
  intro l
  induction l with
  | nil => intro s h; exact h
  | cons a r ih =>
    intro s h
    refine ih _ ?_
    unfold stepN
    split
    · exact h
    · exact putL_sorted h
theorem hasL_mem (l : List Lab) (n : List UInt8) : hasL l n = true ↔ n ∈ l.map (·.1) := by
  simp only [hasL, List.any_eq_true, decide_eq_true_eq, List.mem_map]
theorem nodup_snoc {α : Type} {l : List α} {x : α} : (l ++ [x]).Nodup ↔ l.Nodup ∧ x ∉ l := by
  rw [List.nodup_append]
  constructor
  · rintro ⟨h1, _, h3⟩
    exact ⟨h1, fun hx => h3 x hx x (by simp) rfl⟩
  · rintro ⟨h1, h2⟩
    refine ⟨h1, by simp, ?_⟩
    intro a ha b hb
    simp only [List.mem_cons, List.not_mem_nil, or_false] at hb
    subst hb
    rintro rfl; exact h2 ha
theorem foldN_twice (ls : List Lab) : (foldN ls).2 = true ↔ ¬ ((keptL ls).map (·.1)).Nodup := by
  suffices h : ∀ n, ∀ ls : List Lab, ls.length = n → ((foldN ls).2 = true ↔ ¬ ((keptL ls).map (·.1)).Nodup) from h _ ls rfl
  intro n
  induction n with
  | zero => intro ls h; rw [List.eq_nil_of_length_eq_zero h]; simp [foldN, keptL]
  | succ n ih =>
    intro ls h
    have hne : ls ≠ [] := by intro e; subst e; cases h
    obtain ⟨r, x, rfl⟩ : ∃ r x, ls = r ++ [x] := ⟨ls.dropLast, ls.getLast hne, (List.dropLast_concat_getLast hne).symm⟩
    have hr := ih r (by simpa using h)
    rw [foldN_snoc, keptL_snoc]
    unfold stepN
    by_cases hx : x.2 = []
    · rw [if_pos hx, if_pos hx]; exact hr
    · rw [if_neg hx, if_neg hx]
      simp only [Bool.or_eq_true, hr, hasL_mem, List.map_append, List.map_cons, List.map_nil]
      rw [nodup_snoc]
      have hp : x.1 ∈ (foldN r).1.map (·.1) ↔ x.1 ∈ (keptL r).map (·.1) := ((foldN_perm r).map _).mem_iff
      rw [hp]
      constructor
      · rintro (h1 | h1) ⟨h2, h3⟩
        · exact h1 h2
        · exact h3 h1
      · intro h1
        by_cases h2 : ((keptL r).map (·.1)).Nodup
        · by_cases h3 : x.1 ∈ (keptL r).map (·.1)
          · exact .inr h3
          · exact absurd ⟨h2, h3⟩ h1
        · exact .inl h2
/-- the next one is there, and another name -/
theorem dup_iff {d : List Lab} (h : sortedL d) : (∃ i, dupAt d i) ↔ ¬ (d.map (·.1)).Nodup := by
  have at_ : ∀ i (hi : i < d.length), labAt d i = d[i] := fun i hi => by simp [labAt, List.getD, hi]
  constructor
  · rintro ⟨i, h1, h2, h3⟩ hn
    rw [at_ i h2, at_ (i - 1) (by omega)] at h3
    have := List.pairwise_iff_getElem.1 hn (i - 1) i (by simp; omega) (by simpa using h2) (by omega)
    simp only [List.getElem_map] at this
    exact this h3.symm
  · intro hn
    apply Classical.byContradiction
    intro hno
    refine hn ?_
    have adj : ∀ i (hi : i + 1 < d.length), Op.bytesLess d[i].1 d[i + 1].1 = true := by
      intro i hi
      have h1 := List.pairwise_iff_getElem.1 h i (i + 1) (by omega) hi (by omega)
      rcases bl_not h1 with e | e
      · exfalso
        refine hno ⟨i + 1, by omega, hi, ?_⟩
        rw [at_ (i + 1) hi, Nat.add_sub_cancel, at_ i (by omega)]; exact e.symm
      · exact e
    have lt : ∀ k i (hi : i + (k + 1) < d.length), Op.bytesLess d[i].1 d[i + (k + 1)].1 = true := by
      intro k
      induction k with
      | zero => intro i hi; exact adj i hi
      | succ k ih =>
        intro i hi
        exact bl_trans (ih i (by omega)) (adj (i + (k + 1)) hi)
    unfold List.Nodup
    rw [List.pairwise_iff_getElem]
    intro i j hi hj hij e
    simp only [List.length_map] at hi hj
    simp only [List.getElem_map] at e
    have := lt (j - i - 1) i (by omega)
    have ej : i + (j - i - 1 + 1) = j := by omega
    simp only [ej] at this
    rw [e, bl_irrefl] at this; cases this
theorem sorted_unique : ∀ {a b : List Lab}, sortedL a → sortedL b → (a.map (·.1)).Nodup → a.Perm b → a = b
  | [], b, _, _, _, hp => by rw [List.nil_perm.1 hp]
  | x :: a, [], _, _, _, hp => by simpa using hp.length_eq
  | x :: a, y :: b, ha, hb, hn, hp => by
    unfold sortedL at ha hb
    rw [List.pairwise_cons] at ha hb
    rw [List.map_cons, List.nodup_cons] at hn
    have hx : x ∈ y :: b := hp.subset (by simp)
    have hy : y ∈ x :: a := hp.symm.subset (by simp)
    have e : x = y := by
      rcases List.mem_cons.1 hx with e | hxb
      · exact e
      · rcases List.mem_cons.1 hy with e | hya
        · exact e.symm
        · have h1 := ha.1 y hya
          have h2 := hb.1 x hxb
          have : x.1 = y.1 := by
            rcases bl_not h1 with e | e
            · exact e
            · rw [e] at h2; cases h2
          exact absurd (List.mem_map.2 ⟨y, hya, this.symm⟩) hn.1
    subst e
    rw [sorted_unique ha.2 hb.2 hn.2 (List.Perm.cons_inv hp)]
theorem newS_R {ls : List Lab} {e : Int} {out : List Lab} (h : newS ls e out) : newR ls = (e, out) := by
  unfold newS at h
  unfold newR
  have hall : ls.all okB = ls.all fairB := by congr 1; funext x; exact okB_fair x
  rw [hall] at h
  by_cases ha : ls.all fairB = true
  · rw [if_pos ha] at h ⊢
    obtain ⟨d, hp, hs, h⟩ := h
    have hd := dup_iff hs
    have hnd : (d.map (·.1)).Nodup ↔ ((keptL ls).map (·.1)).Nodup := (hp.map _).nodup_iff
    have ht := foldN_twice ls
    rcases h with ⟨h1, rfl, rfl⟩ | ⟨h1, h2⟩
    · rw [if_pos (ht.2 (by rw [← hnd]; exact hd.1 h1))]
    · have hn : (d.map (·.1)).Nodup := Classical.byContradiction fun hc => by
        obtain ⟨i, hi⟩ := hd.2 hc; exact h1 i hi
      have he : d = (foldN ls).1 := sorted_unique hs (foldN_sorted ls) hn (hp.trans (foldN_perm ls).symm)
      have htw : ¬ (foldN ls).2 = true := fun hc => (ht.1 hc) (hnd.1 hn)
      rw [if_neg htw, ← he]
      split at h2
      · rename_i h3; rw [if_pos h3, h2.1, h2.2]
      · rename_i h3; rw [if_neg h3, h2.1, h2.2]
  · rw [if_neg ha] at h ⊢
    rw [h.1, h.2]
end Go.Proofs.YtcngoccnfmhhnaaGreatDoor.Lab
end
section
open Go Go.Vg Go.RowKit Go.Proofs Go.Proofs.YtcngoccnfmhhnaaGreatDoor
namespace Go.Proofs.YtcngoccnfmhhnaaGreatDoor
open Go.Ex

/-- a line in plain words, and its set -/
def lineR (s : List UInt8) : Option (LineS × List Lab.Lab) :=
  if 0 ≤ nlI s then none else match sampleP Num.intP s with
  | none => none
  | some L => if L.labs.any (fun x => decide (x.1 = nameB)) then none else if (Lab.newR ((nameB, L.name) :: L.labs)).1 = 0 then some (L, (Lab.newR ((nameB, L.name) :: L.labs)).2) else none
theorem any_no {l : List Lab.Lab} (h : ∀ x ∈ l, x.1 ≠ nameB) : l.any (fun x => decide (x.1 = nameB)) = false := by
  rw [Bool.eq_false_iff]
  intro h2
  obtain ⟨x, hx, h3⟩ := List.any_eq_true.1 h2
  exact h x hx (of_decide_eq_true h3)
theorem lineR_ok {s : List UInt8} {L : LineS} {out : List Lab.Lab} (h0 : nlI s < 0) (h : LineIs s L out) : lineR s = some (L, out) := by
  obtain ⟨h1, h2, h3⟩ := h
  have h4 := Lab.newS_R h3
  unfold lineR
  rw [if_neg (by omega), h1]
  simp only
  rw [any_no h2, h4]
  rfl
theorem lineR_no {s : List UInt8} (h : 0 ≤ nlI s ∨ LineNo s) : lineR s = none := by
  unfold lineR
  rcases h with h | h | ⟨L, hL, h⟩
  · rw [if_pos h]
  · split
    · rfl
    · rw [h]
  · split
    · rfl
    · rw [hL]
      simp only
      rcases h with ⟨x, hx, hn⟩ | ⟨ha, e, out, he, hnew⟩
      · rw [show L.labs.any (fun x => decide (x.1 = nameB)) = true from List.any_eq_true.2 ⟨x, hx, decide_eq_true hn⟩]
        rfl
      · rw [any_no ha, Lab.newS_R hnew]
        simp [he]
/-- a sample in memory -/
structure Sm where
  L : LineS
  out : List Lab.Lab
  v : Value
def smC (x : Sm) : List Value := linC x.v x.L.val x.L.time
def smP (x : Sm) : LineS × List Lab.Lab := (x.L, x.out)
/-- samples in memory -/
structure LinS (W : World) (B : Nat) (lv : Value) (l : List Sm) : Prop where
  ow : Owns W B lv 44 4 (l.map smC)
  lo : ∀ x ∈ l, Lab.LO W B x.v x.out
  ne : ∀ x ∈ l, ∀ g, x.v.ownBlock = some g → lv.ownBlock ≠ some g
  dj : l.Pairwise fun x y => ∀ g, x.v.ownBlock = some g → y.v.ownBlock ≠ some g
theorem LinS.same {W W' : World} {B : Nat} {lv : Value} {l : List Sm} (h : LinS W B lv l) (h1 : ∀ g, lv.ownBlock = some g → W'.heap[g]? = W.heap[g]?) (h2 : ∀ x ∈ l, ∀ g, x.v.ownBlock = some g → W'.heap[g]? = W.heap[g]?) : LinS W' B lv l :=
  ⟨h.ow.same fun g _ e => h1 g e, fun x hx => (h.lo x hx).same fun g _ e => h2 x hx g e, h.ne, h.dj⟩
theorem LinS.to {W W' : World} {B : Nat} {lv : Value} {l : List Sm} (h : LinS W B lv l) (hx : Ext W W') : LinS W' B lv l :=
  h.same (fun g hg => hx.block g (h.ow.lt g hg).2) fun x hm g hg => hx.block g ((h.lo x hm).lt g hg).2
theorem LinS.kept {W W' : World} {B q : Nat} {lv : Value} {l : List Sm} (h : LinS W B lv l) (hk : Kept q W W') : LinS W' B lv l :=
  ⟨h.ow.kept hk, fun x hx => (h.lo x hx).kept hk, h.ne, h.dj⟩
/-- what Read keeps while it reads -/
structure RS (W0 W : World) (c4 fb mb B : Nat) (lv fv : Value) (l : List Sm) (fams : List Fam) : Prop where
  kq : Kq (fun g => g ≠ c4 ∧ g ≠ fb ∧ g ≠ mb) W0 W
  b4 : Bx W c4 [lv]
  ls : LinS W B lv l
  fs : FamS W fb mb B fv fams
  nov : ∀ g, lv.ownBlock = some g → fv.ownBlock ≠ some g
  nof : ∀ x ∈ l, ∀ g, x.v.ownBlock = some g → fv.ownBlock ≠ some g
  hB : B ≤ W.heap.size
  h4 : c4 < B
  h4f : c4 ≠ fb
  h4m : c4 ≠ mb
  hB0 : B ≤ W0.heap.size
theorem RS.to {W0 W W' : World} {c4 fb mb B : Nat} {lv fv : Value} {l : List Sm} {fams : List Fam} (h : RS W0 W c4 fb mb B lv fv l fams) (hx : Ext W W') : RS W0 W' c4 fb mb B lv fv l fams :=
  ⟨h.kq.trans hx.kq, h.b4.to hx, h.ls.to hx, h.fs.to hx, h.nov, h.nof, Nat.le_trans h.hB hx.size, h.h4, h.h4f, h.h4m, h.hB0⟩
theorem RS.kept {W0 W W' : World} {c4 fb mb B q : Nat} {lv fv : Value} {l : List Sm} {fams : List Fam} (h : RS W0 W c4 fb mb B lv fv l fams) (hk : Kept q W W') (hq : W0.heap.size ≤ q) : RS W0 W' c4 fb mb B lv fv l fams := by
  have hk' := hk
  obtain ⟨_, hg⟩ := hk
  obtain ⟨es, hm, he⟩ := h.fs.mp
  have hB0 := h.hB0
  have hfB := h.fs.hf
  have hmB := h.fs.hm
  have bl : ∀ b, b < W0.heap.size → W'.heap[b]? = W.heap[b]? := fun b hb => hg.block b (by have := h.kq.size; omega) (by simp only [ne_eq, Option.some.injEq]; omega)
  refine ⟨⟨hg.os.trans h.kq.os, hg.tape.trans h.kq.tape, hg.output.trans h.kq.output, Nat.le_trans h.kq.size hg.size, fun g hgl hp => (bl g hgl).trans (h.kq.same g hgl hp)⟩, h.b4.kept hk', h.ls.kept hk', ⟨h.fs.bx.kept hk', h.fs.ow.kept hk', ⟨es, hm.kept (bl mb (by omega)), he⟩, hfB, hmB, h.fs.hfm⟩, h.nov, h.nof, Nat.le_trans h.hB hg.size, h.h4, h.h4f, h.h4m, h.hB0⟩
theorem Tabs.kq {w W : World} {P : Nat → Prop} (hT : Tabs w) (hk : Kq P w W) (h2 : P 2) (h3 : P 3) : Tabs W := by
  have hlt := hT.lt
  have cl : ∀ {a : Addr} {u : Value}, a.block < w.heap.size → P a.block → w.cell? a = some u → W.cell? a = some u := by
    intro a u ha hp hu
    unfold World.cell? at hu ⊢
    rw [hk.same a.block ha hp]; exact hu
  exact ⟨fun c hc => cl (by show 2 < _; omega) h2 (hT.1 c hc), fun i hi => ⟨cl (by show 3 < _; omega) h3 (hT.2 i hi).1, cl (by show 3 < _; omega) h3 (hT.2 i hi).2⟩⟩
theorem lp_off {W W' : World} {q r : Nat} {rc : Loop} {fb mb B : Nat} {fv : Value} {fams : List Fam} (h : Lp q r rc W) (hf : FamS W fb mb B fv fams) (hk : Kq (Off fb mb fv W.heap.size) W W') : Lp q r rc W' := by
  obtain ⟨es, ⟨ms, cl, hm, _⟩, _⟩ := hf.mp
  obtain ⟨t, hb⟩ := hf.bx
  have ow : ∀ g, fv.ownBlock = some g → ∃ c t f, W.heap[g]? = some (.cells c t f) := by
    intro g hg
    rcases hf.ow.1.2 with ⟨rfl, _⟩ | ⟨g', cap, cur, rfl, _, h3, _⟩
    · simp [Value.ownBlock] at hg
    · simp only [Value.ownBlock, Option.some.injEq] at hg
      subst hg
      exact ⟨_, _, _, h3⟩
  have off : ∀ (b : Nat) (o : Obj), W.heap[b]? = some o → (∀ c t f, o ≠ Obj.cells c t f) → (∀ m c, o ≠ Obj.map m c) → W'.heap[b]? = some o := by
    intro b o hbo h1 h2
    rw [hk.same b (Array.getElem?_eq_some_iff.1 hbo).1 ⟨(Array.getElem?_eq_some_iff.1 hbo).1, fun e => ?_, fun e => ?_, fun e => ?_⟩]
    · exact hbo
    · subst e; rw [hb] at hbo; cases hbo; exact h1 _ _ _ rfl
    · subst e; rw [hm] at hbo; cases hbo; exact h2 _ _ rfl
    · obtain ⟨c, t, f, hc⟩ := ow b e
      rw [hc] at hbo; cases hbo; exact h1 _ _ _ rfl
  exact ⟨off _ _ h.rcd (fun _ _ _ hh => by cases hh) (fun _ _ hh => by cases hh), off _ _ h.dfr (fun _ _ _ hh => by cases hh) (fun _ _ hh => by cases hh)⟩
theorem RS.off {W0 W W' : World} {c4 fb mb B : Nat} {lv fv : Value} {l : List Sm} {fams : List Fam} (h : RS W0 W c4 fb mb B lv fv l fams) (hk : Kq (Off fb mb fv W.heap.size) W W') (he : B = W0.heap.size) : Kq (fun g => g ≠ c4 ∧ g ≠ fb ∧ g ≠ mb) W0 W' ∧ Bx W' c4 [lv] := by
  have hs := h.kq.size
  refine ⟨⟨hk.os.trans h.kq.os, hk.tape.trans h.kq.tape, hk.output.trans h.kq.output, Nat.le_trans hs hk.size, fun g hg hp => (hk.same g (by omega) ⟨by omega, hp.2.1, hp.2.2, fun e => ?_⟩).trans (h.kq.same g hg hp)⟩, h.b4.same (hk.same c4 h.b4.lt ⟨h.b4.lt, h.h4f, h.h4m, fun e => ?_⟩)⟩
  · have := (h.fs.ow.lt g e).1; omega
  · have := (h.fs.ow.lt c4 e).1; have := h.h4; omega
theorem RS.said {W0 W W' : World} {c4 fb mb B : Nat} {lv fv fv' : Value} {l : List Sm} {fams fams' : List Fam} (h : RS W0 W c4 fb mb B lv fv l fams) (hk : Kq (Off fb mb fv W.heap.size) W W') (he : B = W0.heap.size) (hf : FamS W' fb mb B fv' fams') (ho : ∀ g, fv'.ownBlock = some g → fv.ownBlock = some g ∨ W.heap.size ≤ g) : RS W0 W' c4 fb mb B lv fv' l fams' := by
  obtain ⟨h1, h2⟩ := h.off hk he
  have hfB := h.fs.hf
  have hmB := h.fs.hm
  refine ⟨h1, h2, h.ls.same (fun g hg => ?_) (fun x hx g hg => ?_), hf, fun g hg e => ?_, fun x hx g hg e => ?_, Nat.le_trans h.hB hk.size, h.h4, h.h4f, h.h4m, h.hB0⟩
  · have := h.ls.ow.lt g hg
    exact hk.same g this.2 ⟨this.2, by omega, by omega, h.nov g hg⟩
  · have := (h.ls.lo x hx).lt g hg
    exact hk.same g this.2 ⟨this.2, by omega, by omega, h.nof x hx g hg⟩
  · have := h.ls.ow.lt g hg
    rcases ho g e with h3 | h3
    · exact h.nov g hg h3
    · omega
  · have := (h.ls.lo x hx).lt g hg
    rcases ho g e with h3 | h3
    · exact h.nof x hx g hg h3
    · omega
/-- one sample more -/
theorem RS.push {W0 W W1 W2 : World} {c4 fb mb B : Nat} {lv lv' fv : Value} {l : List Sm} {fams : List Fam} {x : Sm} (h : RS W0 W c4 fb mb B lv fv l fams) (hx : Lab.LO W B x.v x.out) (hxn : ∀ g, x.v.ownBlock = some g → lv.ownBlock ≠ some g ∧ fv.ownBlock ≠ some g) (hxd : ∀ y ∈ l, ∀ g, y.v.ownBlock = some g → x.v.ownBlock ≠ some g) (hg : Grew B lv W W1) (ho : Owns W1 B lv' 44 4 ((l ++ [x]).map smC)) (h2 : Own2 W lv lv') (hb : Bx W2 c4 [lv']) (hw : Wr c4 W1 W2) (he : B = W0.heap.size) : RS W0 W2 c4 fb mb B lv' fv (l ++ [x]) fams := by
  have hB := h.hB
  have h4 := h.h4
  have hs := hg.size
  have hfB := h.fs.hf
  have hmB := h.fs.hm
  have hbl := hg.bl
  have keep : ∀ b, b < W.heap.size → b ≠ c4 → lv.ownBlock ≠ some b → W2.heap[b]? = W.heap[b]? := fun b h1 h2 h3 => (hw.block b h2).trans (hg.block b h1 (fun e => h3 e.symm))
  have hnl : ∀ g, lv'.ownBlock = some g → lv.ownBlock = some g ∨ W.heap.size ≤ g := by
    intro g hg
    rcases h2 with h2 | h2
    · exact .inl (by rw [← h2]; exact hg)
    · rw [h2] at hg; cases hg; exact .inr (Nat.le_refl _)
  have hlB : ∀ g, lv.ownBlock = some g → B ≤ g := fun g hg => (h.ls.ow.lt g hg).1
  refine ⟨⟨?_, ?_, ?_, ?_, fun g hgl hp => ?_⟩, hb, ⟨ho.kp hw.kp h4, fun y hy => ?_, fun y hy g hg' e => ?_, List.pairwise_append.2 ⟨h.ls.dj, List.pairwise_singleton _ _, fun y hy z hz g hg' => by rw [List.mem_singleton.1 hz]; exact hxd y hy g hg'⟩⟩, ?_, fun g hg' e => ?_, fun y hy g hg' e => ?_, ?_, h4, h.h4f, h.h4m, h.hB0⟩
  · exact hw.os.trans (hbl.os.trans h.kq.os)
  · exact hw.tape.trans (hbl.tape.trans h.kq.tape)
  · exact hw.output.trans (hbl.output.trans h.kq.output)
  · have := h.kq.size; rw [hw.size]; omega
  · have := h.kq.size
    exact (keep g (by omega) hp.1 (fun e => by have := hlB g e; omega)).trans (h.kq.same g hgl hp)
  · rcases List.mem_append.1 hy with hy | hy
    · refine (h.ls.lo y hy).same fun g hgl e => keep g hgl (fun e2 => ?_) (h.ls.ne y hy g e)
      have := ((h.ls.lo y hy).lt g e).1; omega
    · obtain rfl := List.mem_singleton.1 hy
      refine hx.same fun g hgl e => keep g hgl (fun e2 => ?_) (hxn g e).1
      have := (hx.lt g e).1; omega
  · rcases List.mem_append.1 hy with hy | hy
    · have := ((h.ls.lo y hy).lt g hg').2
      rcases hnl g e with h3 | h3
      · exact h.ls.ne y hy g hg' h3
      · omega
    · obtain rfl := List.mem_singleton.1 hy
      have := (hx.lt g hg').2
      rcases hnl g e with h3 | h3
      · exact (hxn g hg').1 h3
      · omega
  · obtain ⟨es, hm, hM⟩ := h.fs.mp
    exact h.fs.same (keep fb h.fs.bx.lt (Ne.symm h.h4f) (fun e => by have := hlB fb e; omega)) (keep mb hm.lt (Ne.symm h.h4m) (fun e => by have := hlB mb e; omega)) (fun g hg' => keep g (h.fs.ow.lt g hg').2 (fun e => by have := (h.fs.ow.lt g hg').1; omega) (fun e => h.nov g e hg'))
  · rcases hnl g hg' with h3 | h3
    · exact h.nov g h3 e
    · have := (h.fs.ow.lt g e).2; omega
  · rcases List.mem_append.1 hy with hy | hy
    · exact h.nof y hy g hg' e
    · obtain rfl := List.mem_singleton.1 hy
      exact (hxn g hg').2 e
  · rw [hw.size]; omega
theorem ext_kq {w W : World} (h : Kq (fun g => g < w.heap.size) w W) : Ext w W := ⟨h.os, h.tape, h.output, h.size, fun g hg => h.same g hg hg⟩
theorem owns_out {W : World} {r B et k : Nat} {v : Value} {xs : List (List Value)} (h : Owns W B v et k xs) (hD : Df r W) : Owns (outW r W) B v et k xs :=
  h.same fun g hg e => (outW_wr r W).block g fun e2 => Df.neO hD h (by rw [e, e2])
theorem lins_out {W : World} {r B : Nat} {lv : Value} {l : List Sm} (h : LinS W B lv l) (hD : Df r W) : LinS (outW r W) B lv l :=
  ⟨owns_out h.ow hD, fun x hx => owns_out (h.lo x hx) hD, h.ne, h.dj⟩
end Go.Proofs.YtcngoccnfmhhnaaGreatDoor
end
section
open Go Go.Vg Go.RowKit Go.Proofs Go.Proofs.YtcngoccnfmhhnaaGreatDoor
namespace Go.Proofs.YtcngoccnfmhhnaaGreatDoor
open Go.Ex

abbrev St := RSt (LineS × List Lab.Lab)
abbrev rdR (lim : Int) := readR (α := LineS × List Lab.Lab) metB lineR lim
theorem lnC2 : ∀ (ls : List (List UInt8)) (k : Nat), ∀ x ∈ lnC k ls, x.length = 2
  | [], _, x, h => by simp [lnC] at h
  | l :: r, k, x, h => by
    simp only [lnC, List.mem_cons] at h
    rcases h with rfl | h
    · rfl
    · exact lnC2 r (k + 1) x h
/-- what Read gives -/
def ReadS (lim : Int) (s : List UInt8) (w : World) (r : Value) (w' : World) : Prop :=
  Ext w w' ∧ ((∃ lv fv l fams, rdR lim 1 ⟨[], []⟩ (linesP s) = .ok ⟨l.map smP, fams⟩ ∧ r = .tuple ⟨[lv, fv, .int .i64 0, .int .i64 0]⟩ ∧ LinS w' w.heap.size lv l ∧ Owns w' w.heap.size fv 74 3 (fams.map famC)) ∨
    (∃ (n : Nat) (e : Int), rdR lim 1 ⟨[], []⟩ (linesP s) = .error (n, e) ∧ r = .tuple ⟨[.slice none 0 0, .slice none 0 0, .int .i64 n, .int .i64 e]⟩))
set_option maxHeartbeats 4000000 in
theorem bodyR_ok (w : World) (v : Value) (s : List UInt8) (lim : Int) (hv : By w v s) (hs : s.length ≤ 100000000) (hl : ∀ x ∈ linesP s, x.length ≤ 3996) (hT : Tabs w) : Ret Tryz.prog 13 ⟨[v, .int .i64 lim]⟩ w (ReadS lim s w) := by
  refine ret_of_GM Tryz.func13 rfl Tryz.ntmps13 rfl ?_
  simp only [argEnv]
  refine rn ?_
  refine sBox (fun W1 hb1 hs1 hx1 => ?_)
  refine rn ?_
  refine sAl tb (fun W2 hb2 hs2 hx2 => ?_)
  refine rn ?_
  refine sAl tb (fun W3 hb3 hs3 hx3 => ?_)
  refine rn ?_
  refine sAl tb (fun W4 hb4 hs4 hx4 => ?_)
  refine rn ?_
  refine sAl tb (fun W5 hb5 hs5 hx5 => ?_)
  refine rn ?_
  refine sMkV (fun W6 hm6 hs6 hx6 => ?_)
  refine rn ?_
  refine sBox (fun W7 hb7 hs7 hx7 => ?_)
  refine rn ?_
  refine sAl tb (fun W8 hb8 hs8 hx8 => ?_)
  refine sSt tb (fun W9 hb9 hw9 => ?_) (h1 := by simp [Value.oneCell', ptr])
  have hx08 : Ext w W8 := (((((((hx1.trans hx2).trans hx3).trans hx4).trans hx5).trans hx6).trans hx7).trans hx8)
  have hx9 : Ext w W9 := hx08.wr hw9 (by omega)
  have hz : W9.heap.size = w.heap.size + 8 := by rw [hw9.size]; omega
  have hv9 := hv.to hx9
  have b1 : Bx W9 w.heap.size [.int .i64 lim] := (((((((hb1.to hx2).to hx3).to hx4).to hx5).to hx6).to hx7).to hx8).wr hw9 (by omega)
  have b2 : Bx W9 W1.heap.size [.slice none 0 0] := ((((((hb2.to hx3).to hx4).to hx5).to hx6).to hx7).to hx8).wr hw9 (by omega)
  have b3 : Bx W9 W2.heap.size [.slice none 0 0] := (((((hb3.to hx4).to hx5).to hx6).to hx7).to hx8).wr hw9 (by omega)
  have b4 : Bx W9 W3.heap.size [.int .i64 0] := ((((hb4.to hx5).to hx6).to hx7).to hx8).wr hw9 (by omega)
  have b5 : Bx W9 W4.heap.size [.int .i64 0] := (((hb5.to hx6).to hx7).to hx8).wr hw9 (by omega)
  have b6 : Mv W9 W5.heap.size [] := ((hm6.to hx7).to hx8).kp hw9.kp (by omega)
  have b7 : Bx W9 W6.heap.size [.slice none 0 0, .map (some W5.heap.size)] := (hb7.to hx8).wr hw9 (by omega)
  have b8 : Bx W9 W7.heap.size [ptr W6.heap.size] := hb9
  clear hb1 hb2 hb3 hb4 hb5 hm6 hb7 hb8 hb9 hw9 hx08
  refine rn ?_
  refine sCall c9 (lines_ok v s W9 hv9 (by omega)) ?_
  rintro _ W0 ⟨b, v0, rfl, hb, hbx, hv0, hx0⟩
  have b1 := b1.to hx0
  have b2 := b2.to hx0
  have b3 := b3.to hx0
  have b4 := b4.to hx0
  have b5 := b5.to hx0
  have b6 := b6.to hx0
  have b7 := b7.to hx0
  have b8 := b8.to hx0
  have hx00 := hx9.trans hx0
  have hz0 := hx0.size
  have hT0 := hT.to hx00
  have hTl := hT.lt
  have hll := linesP_len s
  have hRS0 : RS W0 W0 W1.heap.size W6.heap.size W5.heap.size W0.heap.size (.slice none 0 0) (.slice none 0 0) [] [] :=
    ⟨Kq.refl _ _, b2, ⟨Owns.nil _ _ _ _, by simp, by simp, by simp⟩, ⟨b7, Owns.nil _ _ _ _, ⟨[], b6, fun m => by simp [vget]⟩, by omega, by omega, by omega⟩, by simp [Value.ownBlock], by simp, Nat.le_refl _, by omega, by omega, by omega, Nat.le_refl _⟩
  refine rn ?_
  refine G.rangeFunc rfl rfl c22 (lines1_ok v0 s b (by omega)) rfl rfl (lnC2 _ _)
    (fun i W => ∃ lv fv l fams, RS W0 W W1.heap.size W6.heap.size W5.heap.size W0.heap.size lv fv l fams ∧ fams.length ≤ i ∧ l.length ≤ i ∧ i ≤ (linesP s).length ∧ rdR lim 1 ⟨[], []⟩ (linesP s) = rdR lim (i + 1) ⟨l.map smP, fams⟩ ((linesP s).drop i))
    (fun c W => c = .ret ∧ ∃ (n : Nat) (e : Int), Kq (fun g => g < w.heap.size) w W ∧ Bx W W1.heap.size [.slice none 0 0] ∧ Bx W W2.heap.size [.slice none 0 0] ∧ Bx W W3.heap.size [.int .i64 n] ∧ Bx W W4.heap.size [.int .i64 e] ∧ rdR lim 1 ⟨[], []⟩ (linesP s) = .error (n, e)) ?_ ?_ ?_ ?_ ?_ ?_ ?_
  · rintro q hq i W W' ⟨lv, fv, l, fams, h1, h2⟩ hk
    exact ⟨lv, fv, l, fams, h1.kept hk hq, h2⟩
  · rintro q hq c W W' ⟨h1, n, e, h2, h3, h4, h5, h6, h7⟩ hk
    refine ⟨h1, n, e, ?_, h3.kept hk, h4.kept hk, h5.kept hk, h6.kept hk, h7⟩
    exact h2.trans ⟨hk.2.os, hk.2.tape, hk.2.output, hk.2.size, fun g hg hp => hk.2.block g hg (by simp only [ne_eq, Option.some.injEq]; omega)⟩
  · rintro i W ⟨lv, fv, l, fams, h1, h2⟩
    refine ⟨(hbx.same (h1.kq.same b hbx.lt ⟨by omega, by omega, by omega⟩)).cells.one, (hv0.same fun g hg e => ?_).sli⟩
    have := (hv0.lt g e).1
    exact h1.kq.same g hg ⟨by omega, by omega, by omega⟩
  · exact fun w' h => ⟨_, _, [], [], hRS0.to h, by simp, by simp, by simp, rfl⟩
  · rintro q r rc i x W hq hqr hxi ⟨lv, fv, l, fams, hR, hfi, hli, hil, he⟩ hLp
    have hio : i < (linesP s).length := by have := (List.getElem?_eq_some_iff.1 hxi).1; rw [lnC_len] at this; exact this
    obtain ⟨y, hy⟩ : ∃ y, (linesP s)[i]? = some y := ⟨_, List.getElem?_eq_getElem hio⟩
    rw [lnC_get (linesP s) 1 i y hy, Option.some.injEq] at hxi
    subst hxi
    have hyl : y.length ≤ 3996 := hl y (List.mem_of_getElem? hy)
    have hdr : (linesP s).drop i = y :: (linesP s).drop (i + 1) := by
      obtain ⟨h1, rfl⟩ := List.getElem?_eq_some_iff.1 hy
      exact List.drop_eq_getElem_cons h1
    have hll1 := hll.1
    unfold rdR at he
    rw [hdr, readR] at he
    refine rn ?_
    refine G.beg rfl rfl rfl hLp hqr ?_
    intro W' hkk hLp' hsz
    have hR := hR.kept hkk hq
    clear hLp hkk hsz
    refine rn ?_
    refine sCall c26 (trimBL_ok y W') ?_
    rintro _ W2' ⟨rfl, hx2'⟩
    have hR := hR.to hx2'
    have hLp := hLp'.to hx2'
    clear hLp' hx2'
    have hsl := skipB_len y
    cases hsk : skipB y with
    | nil =>
      rw [stepR_nil hsk] at he
      simp only at he
      refine rn ?_
      exact G.nil fun t _ => ⟨hLp, lv, fv, l, fams, hR, by omega, by omega, by omega, he⟩
    | cons c t =>
      rw [hsk] at hsl
      simp only [List.length_cons] at hsl
      refine rn ?_
      refine sBs tb 0 ?_ (hj := fun _ => ⟨rfl, by simp⟩)
      refine rn ?_
      refine G.condD rfl (fun hc => ?_) (fun hc => ?_)
      · have hc35 : c = 35 := by rw [← UInt8.toNat_inj]; show c.toNat = 35; exact Int.ofNat.inj hc
        rw [stepR_said hsk hc35] at he
        have hTW : Tabs W2' := hT0.kq hR.kq ⟨by omega, by omega, by omega⟩ ⟨by omega, by omega, by omega⟩
        have hrem := remark_ok W2' t (by omega) hTW
        refine rn ?_
        refine GL.cons (Step.sliceSl tb 1 rfl (Op1.of rfl (by first | exact fun _ => rfl | exact fun h => h | exact fun h => bL h | exact fun h => bL (bL h) | exact fun h => bL (bL (bL h)))) (Op1.of rfl (by first | exact fun _ => rfl | exact fun h => h | exact fun h => bL h | exact fun h => bL (bL h) | exact fun h => bL (bL (bL h)))) rfl (fun _ => ⟨rfl, by simp⟩) rfl ?_)
        refine sCall c27 (hrem) ?_
        rintro _ W3' ⟨hx3', ⟨x, hsx, rfl⟩ | ⟨hsx, a1, a2, a3, rfl⟩⟩
        · have hR := hR.to hx3'
          have hLp := hLp.to hx3'
          have hTW := hTW.to hx3'
          have hxr := saysP_len hsx
          rw [hsx] at he
          simp only at he
          refine rn ?_
          refine sAl tb (fun Wa hba hsa hxa => ?_)
          refine sSt tb (fun Wb hbb hwb => ?_) (vs := saidC x) (hv := rfl) (h1 := said_one)
          have hxb : Ext W3' Wb := Below.wr hxa hwb (Nat.le_refl _)
          have hR := hR.to hxb
          have hLp := hLp.to hxb
          have hTW := hTW.to hxb
          have h8 : Bx Wb W7.heap.size [ptr W6.heap.size] := b8.same (hR.kq.same _ b8.lt ⟨by omega, by omega, by omega⟩)
          unfold saidC at hbb
          clear hba hxa hwb hsa
          refine rn ?_
          refine GL.cons (Step.on rfl rfl (Step.callO rfl rfl (by repeat (first | exact OpL.nil | refine OpL.cons (Op1.of rfl (by first | exact fun _ => rfl | exact fun h => h | exact fun h => bL h | exact fun h => bL (bL h) | exact fun h => bL (bL (bL h)))) ?_)) c28 rfl (takes_ok Wb W6.heap.size W5.heap.size W0.heap.size fv fams x hR.fs hR.hB (by omega) (by omega) hTW (by omega) (by omega)) ?_))
          rintro _ Wc ⟨rfl, hkc, hfc⟩
          have hLp := lp_off hLp hR.fs hkc
          cases hok : saidOk x
          · rw [hok] at he
            simp only [Bool.false_eq_true, if_false] at he
            obtain ⟨hkq, hb4⟩ := hR.off hkc rfl
            have c3 : Bx Wc W2.heap.size [.slice none 0 0] := b3.same (hkq.same _ b3.lt ⟨by omega, by omega, by omega⟩)
            have c4 : Bx Wc W3.heap.size [.int .i64 0] := b4.same (hkq.same _ b4.lt ⟨by omega, by omega, by omega⟩)
            have c5 : Bx Wc W4.heap.size [.int .i64 0] := b5.same (hkq.same _ b5.lt ⟨by omega, by omega, by omega⟩)
            have hkw : Kq (fun g => g < w.heap.size) w Wc := hx00.kq.trans (hkq.mono fun g _ hp => ⟨by omega, by omega, by omega⟩)
            refine rn ?_
            refine sSt tb (fun Wd hbd hwd => ?_) (hb := hb4)
            have hLp := hLp.wr hb4 hwd
            have c3 := c3.wr hwd (by omega)
            have c4 := c4.wr hwd (by omega)
            have c5 := c5.wr hwd (by omega)
            refine sSt tb (fun We hbe hwe => ?_) (hb := c3)
            have hLp := hLp.wr c3 hwe
            have hbd := hbd.wr hwe (by omega)
            have c4 := c4.wr hwe (by omega)
            have c5 := c5.wr hwe (by omega)
            refine sSt tb (fun Wf hbf hwf => ?_) (hb := c4)
            have hLp := hLp.wr c4 hwf
            have hbd := hbd.wr hwf (by omega)
            have hbe := hbe.wr hwf (by omega)
            have c5 := c5.wr hwf (by omega)
            refine sSt tb (fun Wg hbg hwg => ?_) (hb := c5)
            have hLp := hLp.wr c5 hwg
            have hbd := hbd.wr hwg (by omega)
            have hbe := hbe.wr hwg (by omega)
            have hbf := hbf.wr hwg (by omega)
            have hkw := (((hkw.trans (hwd.kq (by omega))).trans (hwe.kq (by omega))).trans (hwf.kq (by omega))).trans (hwg.kq (by omega))
            refine rn ?_
            refine G.ret fun t _ => ⟨hLp, rfl, 1 + i, 8, hkw, hbd, hbe, hbf, hbg, ?_⟩
            rw [show 1 + i = i + 1 by omega]
            exact he
          · rw [hok] at he
            simp only [if_true] at he
            obtain ⟨fv', hfs', hfo'⟩ := hfc hok
            have hR := hR.said hkc rfl hfs' hfo'
            have hfl := famPut_len fams x
            refine rn ?_
            exact G.nil fun t _ => ⟨hLp, lv, fv', l, famPut fams x, hR, by omega, by omega, by omega, he⟩
        · have hR := hR.to hx3'
          have hLp := hLp.to hx3'
          rw [hsx] at he
          simp only at he
          refine rn ?_
          refine sAl tb (fun Wa hba hsa hxa => ?_)
          refine sSt tb (fun Wb hbb hwb => ?_) (vs := [S a1, S a2, S a3]) (hv := rfl) (h1 := said_one)
          have hxb : Ext W3' Wb := Below.wr hxa hwb (Nat.le_refl _)
          have hR := hR.to hxb
          have hLp := hLp.to hxb
          have h8 : Bx Wb W7.heap.size [ptr W6.heap.size] := b8.same (hR.kq.same _ b8.lt ⟨by omega, by omega, by omega⟩)
          clear hba hxa hwb hsa
          refine rn ?_
          refine GL.cons (Step.off (v := .bool false) rfl (of_decide_eq_true rfl) rfl ?_)
          refine rn ?_
          exact G.nil fun t _ => ⟨hLp, lv, fv, l, fams, hR, by omega, by omega, by omega, he⟩
      · have hc35 : c ≠ 35 := fun h => hc (by rw [h]; rfl)
        rw [stepR_smp hsk hc35] at he
        have hTW : Tabs W2' := hT0.kq hR.kq ⟨by omega, by omega, by omega⟩ ⟨by omega, by omega, by omega⟩
        have hn9 : ∀ t L, t <+: y → sampleP Num.intP t = some L → L.labs.length ≤ 999 := by
          intro t L ht hL
          have h1 := (sampleP_len hL).1
          have h2 := ht.length_le
          omega
        refine rn ?_
        refine sCall c24 (readLine_ok W2' y (by omega) hTW hn9) ?_
        rintro _ W3' ⟨hx3', ⟨L, u, out, ⟨hnl, hLI⟩, rfl, hou⟩ | ⟨hno, a1, e1, he1, rfl⟩⟩
        · rw [lineR_ok hnl hLI] at he
          simp only [List.length_map] at he
          have hoW : ∀ g, u.ownBlock = some g → lv.ownBlock ≠ some g ∧ fv.ownBlock ≠ some g := fun g hg => by
            have h1 := (hou.lt g hg).1
            exact ⟨fun e => by have := (hR.ls.ow.lt g e).2; omega, fun e => by have := (hR.fs.ow.lt g e).2; omega⟩
          have hoD : ∀ z ∈ l, ∀ g, z.v.ownBlock = some g → u.ownBlock ≠ some g := fun z hz g hg e => by have := ((hR.ls.lo z hz).lt g hg).2; have := (hou.lt g e).1; omega
          have hBW := hR.hB
          have hR := hR.to hx3'
          have hLp := hLp.to hx3'
          have hone : u.oneCell' = true := hou.sli.one u (List.mem_singleton.2 rfl)
          refine rn ?_
          refine sAl tb (fun Wa hba hsa hxa => ?_)
          refine sSt tb (fun Wb hbb hwb => ?_) (vs := linC u L.val L.time) (hv := rfl) (h1 := linC_one hone)
          have hxb : Ext W3' Wb := Below.wr hxa hwb (Nat.le_refl _)
          have hR := hR.to hxb
          have hLp := hLp.to hxb
          have hou : Lab.LO Wb W0.heap.size u out := (hou.to hxb).mono hBW
          have h1 : Bx Wb w.heap.size [.int .i64 lim] := b1.same (hR.kq.same _ b1.lt ⟨by omega, by omega, by omega⟩)
          clear hba hxa hwb hsa
          have hb4' := hR.b4
          have hlo := hR.ls.ow
          have hll4 : (l.map smC).length = l.length := by simp
          have hlvs := hlo.sli
          unfold linC at hbb
          refine rn ?_
          refine G.condD rfl (fun hc => ?_) (fun hc => ?_)
          · rw [if_pos (by omega)] at he
            simp only at he
            have hkq := hR.kq
            have hb4 := hR.b4
            have c3 : Bx Wb W2.heap.size [.slice none 0 0] := b3.same (hkq.same _ b3.lt ⟨by omega, by omega, by omega⟩)
            have c4 : Bx Wb W3.heap.size [.int .i64 0] := b4.same (hkq.same _ b4.lt ⟨by omega, by omega, by omega⟩)
            have c5 : Bx Wb W4.heap.size [.int .i64 0] := b5.same (hkq.same _ b5.lt ⟨by omega, by omega, by omega⟩)
            have hkw : Kq (fun g => g < w.heap.size) w Wb := hx00.kq.trans (hkq.mono fun g _ hp => ⟨by omega, by omega, by omega⟩)
            refine rn ?_
            refine sSt tb (fun Wd hbd hwd => ?_) (hb := hb4)
            have hLp := hLp.wr hb4 hwd
            have c3 := c3.wr hwd (by omega)
            have c4 := c4.wr hwd (by omega)
            have c5 := c5.wr hwd (by omega)
            refine sSt tb (fun We hbe hwe => ?_) (hb := c3)
            have hLp := hLp.wr c3 hwe
            have hbd := hbd.wr hwe (by omega)
            have c4 := c4.wr hwe (by omega)
            have c5 := c5.wr hwe (by omega)
            refine sSt tb (fun Wf hbf hwf => ?_) (hb := c4)
            have hLp := hLp.wr c4 hwf
            have hbd := hbd.wr hwf (by omega)
            have hbe := hbe.wr hwf (by omega)
            have c5 := c5.wr hwf (by omega)
            refine sSt tb (fun Wg hbg hwg => ?_) (hb := c5)
            have hLp := hLp.wr c5 hwg
            have hbd := hbd.wr hwg (by omega)
            have hbe := hbe.wr hwg (by omega)
            have hbf := hbf.wr hwg (by omega)
            have hkw := (((hkw.trans (hwd.kq (by omega))).trans (hwe.kq (by omega))).trans (hwf.kq (by omega))).trans (hwg.kq (by omega))
            refine rn ?_
            refine G.ret fun t _ => ⟨hLp, rfl, 1 + i, 11, hkw, hbd, hbe, hbf, hbg, ?_⟩
            rw [show 1 + i = i + 1 by omega]
            exact he
          · rw [if_neg (by omega)] at he
            simp only at he
            refine rn ?_
            refine sBs' tb [linC u L.val L.time] (fun us W5' ho5 hs5 hx5' => ?_) (hkl := by simp [linC]) (hfill := by kernel_rfl)
            have hR := hR.to hx5'
            have hLp := hLp.to hx5'
            refine sApp2 tb hR.ls.ow ho5.sli (fun lv' W6' hlv' hg6 ho2 => ?_) (h1 := by
              intro z hz c hc
              obtain rfl := List.mem_singleton.1 hz
              exact linC_one hone c hc) (hB := hR.hB)
            have hLp := hR.ls.ow.lp hLp hg6
            have hb46 := hR.b4.grew hg6 (hR.ls.ow.ne hR.h4)
            refine sSt tb (fun W7' hb7' hw7' => ?_) (vs := [lv']) (hv := hlv'.cells) (h1 := hlv'.sli.one) (hb := hb46)
            have hLp := hLp.wr hb46 hw7'
            have hR := hR.push (x := ⟨L, out, u⟩) (hou.to hx5') hoW hoD hg6 (by rw [List.map_append]; exact hlv') ho2 hb7' hw7' rfl
            refine rn ?_
            exact G.nil fun t _ => ⟨hLp, lv', fv, l ++ [⟨L, out, u⟩], fams, hR, by omega, by simp only [List.length_append, List.length_cons, List.length_nil]; omega, by omega, by rw [List.map_append]; exact he⟩
        · rw [lineR_no hno] at he
          simp only at he
          have hR := hR.to hx3'
          have hLp := hLp.to hx3'
          refine rn ?_
          refine sAl tb (fun Wa hba hsa hxa => ?_)
          refine sSt tb (fun Wb hbb hwb => ?_) (vs := linZ) (hv := rfl) (h1 := linZ_one)
          have hxb : Ext W3' Wb := Below.wr hxa hwb (Nat.le_refl _)
          have hR := hR.to hxb
          have hLp := hLp.to hxb
          clear hba hxa hwb hsa
          refine rn ?_
          refine G.cond rfl (fun hc => ?_) (fun hc => ?_)
          · skip
            have hkq := hR.kq
            have hb4 := hR.b4
            have c3 : Bx Wb W2.heap.size [.slice none 0 0] := b3.same (hkq.same _ b3.lt ⟨by omega, by omega, by omega⟩)
            have c4 : Bx Wb W3.heap.size [.int .i64 0] := b4.same (hkq.same _ b4.lt ⟨by omega, by omega, by omega⟩)
            have c5 : Bx Wb W4.heap.size [.int .i64 0] := b5.same (hkq.same _ b5.lt ⟨by omega, by omega, by omega⟩)
            have hkw : Kq (fun g => g < w.heap.size) w Wb := hx00.kq.trans (hkq.mono fun g _ hp => ⟨by omega, by omega, by omega⟩)
            refine rn ?_
            refine sSt tb (fun Wd hbd hwd => ?_) (hb := hb4)
            have hLp := hLp.wr hb4 hwd
            have c3 := c3.wr hwd (by omega)
            have c4 := c4.wr hwd (by omega)
            have c5 := c5.wr hwd (by omega)
            refine sSt tb (fun We hbe hwe => ?_) (hb := c3)
            have hLp := hLp.wr c3 hwe
            have hbd := hbd.wr hwe (by omega)
            have c4 := c4.wr hwe (by omega)
            have c5 := c5.wr hwe (by omega)
            refine sSt tb (fun Wf hbf hwf => ?_) (hb := c4)
            have hLp := hLp.wr c4 hwf
            have hbd := hbd.wr hwf (by omega)
            have hbe := hbe.wr hwf (by omega)
            have c5 := c5.wr hwf (by omega)
            refine sSt tb (fun Wg hbg hwg => ?_) (hb := c5)
            have hLp := hLp.wr c5 hwg
            have hbd := hbd.wr hwg (by omega)
            have hbe := hbe.wr hwg (by omega)
            have hbf := hbf.wr hwg (by omega)
            have hkw := (((hkw.trans (hwd.kq (by omega))).trans (hwe.kq (by omega))).trans (hwf.kq (by omega))).trans (hwg.kq (by omega))
            refine rn ?_
            refine G.ret fun t _ => ⟨hLp, rfl, 1 + i, 8, hkw, hbd, hbe, hbf, hbg, ?_⟩
            rw [show 1 + i = i + 1 by omega]
            exact he
          · exfalso
            apply he1
            simpa using hc
  · rintro r W hr ⟨lv, fv, l, fams, hR, -, -, -, he⟩ hD
    rw [lnC_len, List.drop_length] at he
    have he : rdR lim 1 ⟨[], []⟩ (linesP s) = .ok ⟨l.map smP, fams⟩ := he
    have hR := hR.to (Ext.drew W)
    have hD := hD.to (Ext.drew W)
    have hkq := hR.kq
    have d4 := hR.b4
    have d8 : Bx W.drew W7.heap.size [ptr W6.heap.size] := b8.same (hkq.same _ b8.lt ⟨by omega, by omega, by omega⟩)
    have df := hR.fs.bx
    have c3 : Bx W.drew W2.heap.size [.slice none 0 0] := b3.same (hkq.same _ b3.lt ⟨by omega, by omega, by omega⟩)
    have c4 : Bx W.drew W3.heap.size [.int .i64 0] := b4.same (hkq.same _ b4.lt ⟨by omega, by omega, by omega⟩)
    have c5 : Bx W.drew W4.heap.size [.int .i64 0] := b5.same (hkq.same _ b5.lt ⟨by omega, by omega, by omega⟩)
    have hkw : Kq (fun g => g < w.heap.size) w W.drew := hx00.kq.trans (hkq.mono fun g _ hp => ⟨by omega, by omega, by omega⟩)
    have hlo := hR.ls
    have hfo := hR.fs.ow
    have hlcl := hlo.ow.cells
    have hfcl := hfo.cells
    have hl1 : lv.oneCell' = true := hlo.ow.sli.one lv (List.mem_singleton.2 rfl)
    have hf1 : fv.oneCell' = true := hfo.sli.one fv (List.mem_singleton.2 rfl)
    refine rn ?_
    refine G.regionM [(0, true), (1, true), (2, true), (3, true), (4, true), (5, false), (6, false), (7, false), (8, false)] (fun w' => Bx w' W1.heap.size [lv] ∧ Bx w' W7.heap.size [ptr W6.heap.size] ∧ Bx w' W6.heap.size [fv, .map (some W5.heap.size)]) (by kernel_rfl) (by kernel_rfl) rfl mixed (⟨d4, d8, df⟩) rfl ?_
    refine dLd tb (u := lv) ?_ (hc := fun w' hS _ => Bx.c0 hS.1 rfl)
    refine rd ?_
    refine dLd tb (u := ptr W6.heap.size) ?_ (hc := fun w' hS _ => Bx.c0 hS.2.1 rfl)
    refine rd ?_
    refine dLd tb (u := fv) ?_ (hc := fun w' hS _ => Bx.c0 hS.2.2 rfl)
    refine rd ?_
    refine GM.eff (Step.store0 (vs := [lv]) tb rfl (Op1.of rfl (by first | exact fun _ => rfl | exact fun h => h | exact fun h => bL h | exact fun h => bL (bL h) | exact fun h => bL (bL (bL h)))) (Op1.of rfl (by first | exact fun _ => rfl | exact fun h => h | exact fun h => bL h | exact fun h => bL (bL h) | exact fun h => bL (bL (bL h)))) rfl hlcl rfl (by intro z hz; obtain rfl := List.mem_singleton.1 hz; exact hl1) d4 rfl ?_)
    intro Wa hba hwa
    have hD := hD.wr d4 hwa
    have d8 := d8.wr hwa (by omega)
    have df := df.wr hwa (by omega)
    have c3 := c3.wr hwa (by omega)
    have c4 := c4.wr hwa (by omega)
    have c5 := c5.wr hwa (by omega)
    refine ⟨⟨hba, d8, df⟩, ?_⟩
    refine GM.eff (Step.store0 (vs := [fv]) tb rfl (Op1.of rfl (by first | exact fun _ => rfl | exact fun h => h | exact fun h => bL h | exact fun h => bL (bL h) | exact fun h => bL (bL (bL h)))) (Op1.of rfl (by first | exact fun _ => rfl | exact fun h => h | exact fun h => bL h | exact fun h => bL (bL h) | exact fun h => bL (bL (bL h)))) rfl hfcl rfl (by intro z hz; obtain rfl := List.mem_singleton.1 hz; exact hf1) c3 rfl ?_)
    intro Wb hbb hwb
    have hD := hD.wr c3 hwb
    have hba := hba.wr hwb (by omega)
    have d8 := d8.wr hwb (by omega)
    have df := df.wr hwb (by omega)
    have c4 := c4.wr hwb (by omega)
    have c5 := c5.wr hwb (by omega)
    refine ⟨⟨hba, d8, df⟩, ?_⟩
    refine GM.eff (Step.store0 tb rfl (Op1.of rfl (by first | exact fun _ => rfl | exact fun h => h | exact fun h => bL h | exact fun h => bL (bL h) | exact fun h => bL (bL (bL h)))) (Op1.of rfl (by first | exact fun _ => rfl | exact fun h => h | exact fun h => bL h | exact fun h => bL (bL h) | exact fun h => bL (bL (bL h)))) rfl rfl rfl (by simp [Value.oneCell']) c4 rfl ?_)
    intro Wc hbc hwc
    have hD := hD.wr c4 hwc
    have hba := hba.wr hwc (by omega)
    have hbb := hbb.wr hwc (by omega)
    have d8 := d8.wr hwc (by omega)
    have df := df.wr hwc (by omega)
    have c5 := c5.wr hwc (by omega)
    refine ⟨⟨hba, d8, df⟩, ?_⟩
    refine GM.eff (Step.store0 tb rfl (Op1.of rfl (by first | exact fun _ => rfl | exact fun h => h | exact fun h => bL h | exact fun h => bL (bL h) | exact fun h => bL (bL (bL h)))) (Op1.of rfl (by first | exact fun _ => rfl | exact fun h => h | exact fun h => bL h | exact fun h => bL (bL h) | exact fun h => bL (bL (bL h)))) rfl rfl rfl (by simp [Value.oneCell']) c5 rfl ?_)
    intro Wd hbd hwd
    have hD := hD.wr c5 hwd
    have hba := hba.wr hwd (by omega)
    have hbb := hbb.wr hwd (by omega)
    have hbc := hbc.wr hwd (by omega)
    have d8 := d8.wr hwd (by omega)
    have df := df.wr hwd (by omega)
    refine ⟨⟨hba, d8, df⟩, ?_⟩
    refine GM.nil ?_
    have hkw := (((hkw.trans (hwa.kq (by omega))).trans (hwb.kq (by omega))).trans (hwc.kq (by omega))).trans (hwd.kq (by omega))
    have hkd : Kq (fun g => W0.heap.size ≤ g) W.drew Wd := (((hwa.kq (by omega)).trans (hwb.kq (by omega))).trans (hwc.kq (by omega))).trans (hwd.kq (by omega))
    have hlo : LinS Wd W0.heap.size lv l := hlo.same (fun g hg => hkd.same g (hlo.ow.lt g hg).2 (hlo.ow.lt g hg).1) (fun x hx g hg => hkd.same g ((hlo.lo x hx).lt g hg).2 ((hlo.lo x hx).lt g hg).1)
    have hfo : Owns Wd W0.heap.size fv 74 3 (fams.map famC) := hfo.same fun g hg e => hkd.same g hg (hfo.lt g e).1
    have hlo := lins_out hlo hD
    have hfo := owns_out hfo hD
    have hxo : Ext w (outW r Wd) := (ext_kq hkw).wr (outW_wr r _) (by omega)
    refine G.retM rfl rfl hD fun t ht => ⟨_, resC4 ht rfl rfl rfl rfl rfl (tb.ok _ _ rfl) rfl (tb.ok _ _ rfl) rfl (tb.ok _ _ rfl) rfl (tb.ok _ _ rfl) rfl (Bx.c0 (hba.out hD) rfl) (Bx.c0 (hbb.out hD) rfl) (Bx.c0 (hbc.out hD) rfl) (Bx.c0 (hbd.out hD) rfl), hxo, .inl ⟨lv, fv, l, fams, he, rfl, ?_, hfo.mono (by omega)⟩⟩
    exact ⟨hlo.ow.mono (by omega), fun x hx => (hlo.lo x hx).mono (by omega), hlo.ne, hlo.dj⟩
  · rintro r c W hr ⟨rfl, n, e, hkw, h2, h3, h4, h5, he⟩ hD
    have hxo : Ext w (outW r W) := (ext_kq hkw).wr (outW_wr r _) (by omega)
    exact G.retM rfl rfl hD fun t ht => ⟨_, resC4 ht rfl rfl rfl rfl rfl (tb.ok _ _ rfl) rfl (tb.ok _ _ rfl) rfl (tb.ok _ _ rfl) rfl (tb.ok _ _ rfl) rfl (Bx.c0 (h2.out hD) rfl) (Bx.c0 (h3.out hD) rfl) (Bx.c0 (h4.out hD) rfl) (Bx.c0 (h5.out hD) rfl), hxo, .inr ⟨n, e, he, rfl⟩⟩
end Go.Proofs.YtcngoccnfmhhnaaGreatDoor
end
section
open Go Go.Vg Go.RowKit Go.Proofs Go.Proofs.YtcngoccnfmhhnaaGreatDoor
namespace Go.Proofs.YtcngoccnfmhhnaaGreatDoor.Lab

theorem getX {ls : List Lab} {k : Nat} (h : k < ls.length) : ∃ x, (ls.map labC)[k]? = some (labC x) ∧ ls.drop k = x :: ls.drop (k + 1) :=
  ⟨ls[k], by simp [h], List.drop_eq_getElem_cons h⟩

end Go.Proofs.YtcngoccnfmhhnaaGreatDoor.Lab
end
section
open Go Go.Vg Go.RowKit Go.Proofs Go.Proofs.YtcngoccnfmhhnaaGreatDoor
namespace Go.Proofs.YtcngoccnfmhhnaaGreatDoor.Lab

theorem strT : Tryz.prog.underlying 9 = some .string := tb.ok _ _ rfl
theorem strA (w : World) : (isAgg 9).run Tryz.prog w = .ok false w := run_isAgg strT w
theorem eqLab (x y : Lab) (fs : Array Field) (h : tb.ty 76 = some (.struct fs)) (w : World) : (Op.eqFields 9999 ⟨labC x⟩ ⟨labC y⟩ fs.toList).run Tryz.prog w = .ok (decide (x = y)) w := by
  cases h
  have e1 : ∀ w, (Op.equalIn 9999 9 (S x.1) (S y.1)).run Tryz.prog w = .ok (decide (x.1 = y.1)) w := fun w => by
    have := run_equalIn_string (P := Tryz.prog) w 9998 9 ⟨⟨x.1⟩⟩ ⟨⟨y.1⟩⟩ strT
    rw [toL, toL, beqL] at this; exact this
  have e2 : ∀ w, (Op.equalIn 9999 9 (S x.2) (S y.2)).run Tryz.prog w = .ok (decide (x.2 = y.2)) w := fun w => by
    have := run_equalIn_string (P := Tryz.prog) w 9998 9 ⟨⟨x.2⟩⟩ ⟨⟨y.2⟩⟩ strT
    rw [toL, toL, beqL] at this; exact this
  have e : decide (x = y) = (decide (x.1 = y.1) && decide (x.2 = y.2)) := by
    obtain ⟨a, b⟩ := x
    obtain ⟨a', b'⟩ := y
    simp [Prod.mk.injEq, Bool.decide_and]
  rw [e]
  simp only [labC, Op.eqFields, part, strA, Sem.run_bind, Result.andThen_ok]
  have h1 : decide (x.1 = y.1) = true ∨ decide (x.1 = y.1) = false := by cases decide (x.1 = y.1) <;> simp
  have h2 : decide (x.2 = y.2) = true ∨ decide (x.2 = y.2) = false := by cases decide (x.2 = y.2) <;> simp
  generalize decide (x.1 = y.1) = p1 at e1 h1 ⊢
  generalize decide (x.2 = y.2) = p2 at e2 h2 ⊢
  rcases h1 with rfl | rfl <;> rcases h2 with rfl | rfl <;> simp [strA, e1, e2]

def eqN (a b : List Lab) : Bool := decide (a = b)
theorem keepLabels_ok (v u : Value) (a b : List Lab) (w : World) (hv : Labs w v a) (hu : Labs w u b) :
    Ret Tryz.prog 36 ⟨[v, u]⟩ w fun r w' => r = .bool (eqN a b) ∧ Ext w w' := by
  have hbd := Labs.bound hv
  have hbd2 := Labs.bound hu
  refine ret_of_G Tryz.func36 rfl Tryz.ntmps36 rfl ?_
  simp only [argEnv]
  refine rn ?_
  rw [List.length_map, List.length_map]
  refine rn ?_
  first | refine G.condD rfl (fun hc => ?_) (fun hc => ?_) | refine G.condN rfl (fun hc => ?_) (fun hc => ?_) | refine G.cond rfl (fun hc => ?_) (fun hc => ?_)
  · have hne : eqN a b = false := by
      refine decide_eq_false fun e => hc ?_
      rw [e]
    refine rn ?_
    refine G.ret1 rfl rfl rfl rfl ?_
    exact ⟨by rw [hne], Ext.refl _⟩
  · refine rn ?_
    refine (G.loop (fun k : Nat => [(0, none, v), (1, none, u), (5, none, .int .i64 k)]) (fun k w' => Ext w w' ∧ k ≤ a.length ∧ a.take k = b.take k) (fun k => a.length - k) 0 (by repeat (first | exact Sub.nil _ | refine Sub.cons rfl ?_)) ⟨Ext.refl _, by omega, by simp⟩ ?_)
    rintro k w1 ⟨hx1, hk, hto⟩
    have hv1 := hv.to hx1
    have hu1 := hu.to hx1
    refine rn ?_
    rw [List.length_map]
    have hc0 := hc
    refine rn ?_
    first | refine G.condD rfl (fun hc => ?_) (fun hc => ?_) | refine G.condN rfl (fun hc => ?_) (fun hc => ?_) | refine G.cond rfl (fun hc => ?_) (fun hc => ?_)
    · have hlt : k < a.length := by omega
      have hlt2 : k < b.length := by omega
      obtain ⟨x, hgx, hdx⟩ := getX hlt
      obtain ⟨y, hgy, hdy⟩ := getX hlt2
      refine rn ?_
      refine G.regionM [(0, true), (1, true), (2, true), (3, true), (4, true), (5, true), (6, true), (7, true), (8, true)] (Ext w1) (by kernel_rfl) (by kernel_rfl) rfl mixed (Ext.drew w1) rfl ?_
      try (refine mm tb ?_); repeat ((first | refine dFa tb ?_ | refine dLd tb ?_ | refine dLa tb ?_ | refine dLen tb ?_ | refine dFd tb ?_ | refine dIa tb k ?_); try (refine mm tb ?_))
      refine GM.read (fun w' hS => Step.eqSt tb rfl (Op1.of rfl (by first | exact fun _ => rfl | exact fun h => h | exact fun h => bL h | exact fun h => bL (bL h) | exact fun h => bL (bL (bL h)))) (Op1.of rfl (by first | exact fun _ => rfl | exact fun h => h | exact fun h => bL h | exact fun h => bL (bL h) | exact fun h => bL (bL (bL h)))) rfl (by kernel_rfl) (by kernel_rfl) (eqLab x y _ rfl) rfl (.inr rfl) ⟨rfl, rfl⟩) rfl rfl ?_
      refine GM.nil ?_
      have hx2 := hx1.drew'
      generalize w1.drew = w2 at hx2 ⊢
      refine rn ?_
      first | refine G.condD rfl (fun hc => ?_) (fun hc => ?_) | refine G.condN rfl (fun hc => ?_) (fun hc => ?_) | refine G.cond rfl (fun hc => ?_) (fun hc => ?_)
      · have hne : eqN a b = false := by
          refine decide_eq_false fun e => hc ?_
          subst e
          rw [hdx] at hdy
          exact (List.cons.inj hdy).1
        refine rn ?_
        refine G.ret1 rfl rfl rfl rfl ?_
        exact ⟨by rw [hne], hx2⟩
      · subst hc
        refine rn ?_
        refine sAd tb ?_
        refine rn ?_
        refine G.lp (k + 1) (by repeat (first | exact Sub.nil _ | refine Sub.cons rfl ?_)) ⟨hx2, by omega, ?_⟩ (by omega)
        rw [List.take_succ_eq_append_getElem hlt, List.take_succ_eq_append_getElem hlt2, hto]
        have h1 : a[k] = x := by rw [List.drop_eq_getElem_cons hlt] at hdx; exact (List.cons.inj hdx).1
        have h2 : b[k] = x := by rw [List.drop_eq_getElem_cons hlt2] at hdy; exact (List.cons.inj hdy).1
        rw [h1, h2]
    · have hke : k = a.length := by omega
      have hkb : k = b.length := by omega
      refine rn ?_
      refine G.ret1 rfl rfl rfl rfl ?_
      refine ⟨?_, hx1⟩
      rw [List.take_of_length_le (by omega), List.take_of_length_le (by omega)] at hto
      rw [hto]; simp [eqN]
end Go.Proofs.YtcngoccnfmhhnaaGreatDoor.Lab
end
