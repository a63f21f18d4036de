/- whatever the bytes and the limit, the law of a body read returns true and leaves what came in alone Conditions: none beyond the statement's own. -/
import Derived.Test.YtcngoccnfmhhnaaGreatDoorP07
import Derived.Test.YtcngoccnfmhhnaaGreatDoorTie
import Derived.Test.YtcngoccnfmhhnaaGreatDoorCards
import Derived.Deep.DeepWitnessRowRef
import Derived.Lib.LaidIn
import Derived.Lib.LaidU8T
import Derived.PinnedBridge
set_option linter.unusedSimpArgs false
set_option linter.unusedVariables false
set_option linter.unusedSectionVars false
section
open Go Go.Vg Go.RowKit Go.Proofs Go.Proofs.YtcngoccnfmhhnaaGreatDoor
namespace Go.Proofs.YtcngoccnfmhhnaaGreatDoor
open Go.Nm

theorem trimZ_snoc : ∀ (l : List UInt8) (c : UInt8), trimZ (l ++ [c]) = if trimZ l = [] then trimZ [c] else trimZ l ++ [c]
  | [], c => by rw [if_pos (by rfl)]; rfl
  | d :: l, c => by
    rw [List.cons_append, trimZ, trimZ]
    by_cases h : d = 48
    · rw [if_pos h, if_pos h]
      exact trimZ_snoc l c
    · rw [if_neg h, if_neg h, if_neg (by simp), List.cons_append]
theorem allD_nil : allD [] := fun c hc => by cases hc
theorem allD_app {l : List UInt8} {c : UInt8} (h : allD l) (hc : 48 ≤ c.toNat ∧ c.toNat ≤ 57) : allD (l ++ [c]) := fun d hd => by
  rcases List.mem_append.1 hd with hd | hd
  · exact h d hd
  · rw [List.mem_singleton.1 hd]; exact hc
theorem numZ {l : List UInt8} (h : allD l) : numL l 0 = 0 ↔ trimZ l = [] := by
  constructor
  · intro h0
    apply Decidable.byContradiction
    intro hne
    have h1 := trim_pos h hne
    rw [numL_trim, h0] at h1
    have := Nat.pow_pos (show 0 < 10 by decide) (n := (trimZ l).length - 1)
    omega
  · intro h0
    rw [← numL_trim, h0]; rfl
theorem cnt_snoc {l : List UInt8} {c : UInt8} (h : allD l) (hc : 48 ≤ c.toNat ∧ c.toNat ≤ 57) :
    (numL (l ++ [c]) 0 = 0 → (trimZ l).length = 0 ∧ (trimZ (l ++ [c])).length = 0) ∧ (numL (l ++ [c]) 0 ≠ 0 → (trimZ (l ++ [c])).length = (trimZ l).length + 1) := by
  have hz := numZ (allD_app h hc)
  have hs := trimZ_snoc l c
  constructor
  · intro h0
    have h1 := hz.1 h0
    rw [h1] at hs ⊢
    by_cases h2 : trimZ l = []
    · rw [h2]; exact ⟨rfl, rfl⟩
    · rw [if_neg h2] at hs
      simp at hs
  · intro h0
    have h1 : trimZ (l ++ [c]) ≠ [] := fun h => h0 (hz.2 h)
    rw [hs] at h1 ⊢
    by_cases h2 : trimZ l = []
    · rw [if_pos h2] at h1 ⊢
      rw [h2]
      rw [trimZ] at h1 ⊢
      by_cases h3 : c = 48
      · rw [if_pos h3] at h1; exact absurd rfl h1
      · rw [if_neg h3]; rfl
    · rw [if_neg h2, List.length_append]; rfl
theorem splitP_no {u : List UInt8} (h : ¬ (u.drop (runD u)).head? = some 46) : splitP u = (u.take (runD u), 0, u.drop (runD u)) := by
  unfold splitP; rw [if_neg h]
theorem splitP_dot {u : List UInt8} (h : (u.drop (runD u)).head? = some 46) {j : Nat} (hj : runD (u.drop (runD u + 1)) = j) : splitP u = (u.take (runD u) ++ (u.drop (runD u + 1)).take j, j, u.drop (runD u + 1 + j)) := by
  unfold splitP
  rw [if_pos h, List.drop_drop, hj, List.drop_drop]
theorem head_get {u : List UInt8} {r : Nat} : (decide ((r : Int) < ((u.length : Nat) : Int)) && decide (((u.getD r 0).toNat : Int) = 46)) = decide ((u.drop r).head? = some 46) := by
  rw [Bool.eq_iff_iff]
  simp only [Bool.and_eq_true, decide_eq_true_eq]
  by_cases hlt : r < u.length
  · rw [List.drop_eq_getElem_cons hlt, List.head?_cons, List.getD_eq_getElem?_getD, List.getElem?_eq_getElem hlt]
    simp only [Option.getD_some, Option.some.injEq]
    rw [← UInt8.toNat_inj]
    show _ ↔ u[r].toNat = 46
    omega
  · rw [List.drop_eq_nil_of_le (by omega)]
    simp
    omega

/-- a row of digits apart from the box b -/
structure RtO (w : World) (b : Nat) (v : Value) (l : List Nat) : Prop where
  ow : Owns w (b + 1) v 3 1 (l.map i64C)
  nr : Nrm 10000 l
theorem RtO.rt {w : World} {b : Nat} {v : Value} {l : List Nat} (h : RtO w b v l) : Rt w v l := ⟨h.ow.sli, h.nr⟩
theorem RtO.to {w w' : World} {b : Nat} {v : Value} {l : List Nat} (h : RtO w b v l) (hx : Ext w w') : RtO w' b v l := ⟨h.ow.to hx, h.nr⟩
theorem RtO.wr {w w' : World} {b : Nat} {v : Value} {l : List Nat} (h : RtO w b v l) (hw : Wr b w w') : RtO w' b v l := ⟨h.ow.wr hw (Nat.lt_succ_self b), h.nr⟩
theorem RtO.nil (w : World) (b : Nat) : RtO w b (.slice none 0 0) [] := ⟨Owns.nil _ _ _ _, Nrm.nil _⟩
set_option maxHeartbeats 4000000 in
theorem parseR_ok (s : List UInt8) (w : World) (hs : s.length ≤ 9223372036854775807) : Ret Tryz.prog 128 ⟨[S s]⟩ w fun r w' => ParseR s r ∧ Ext w w' := by
  unfold ParseR
  refine ret_of_G Tryz.func128 rfl Tryz.ntmps128 rfl ?_
  simp only [argEnv]
  refine rn ?_
  by_cases h400 : 400 < s.length
  · rw [decide_eq_true (p := (400 : Int) < ((s.length : Nat) : Int)) (by omega)]
    have hP : parseP s = none := by unfold parseP; rw [if_pos h400]
    rw [hP]
    refine rn ?_
    refine G.ret2 rfl rfl rfl rfl rfl ?_
    exact ⟨rfl, Ext.refl _⟩
  rw [decide_eq_false (p := (400 : Int) < ((s.length : Nat) : Int)) (by omega)]
  have hP : parseP s = if (unsign s).map lowB = [110, 97, 110] then some nanB
      else if (unsign s).map lowB = [105, 110, 102] ∨ (unsign s).map lowB = [105, 110, 102, 105, 110, 105, 116, 121] then some (infB + sgn (minus s))
      else match readP (unsign s) with
        | none => none
        | some (ds, x) => some (progBits ds x + sgn (minus s)) := by unfold parseP; rw [if_neg h400]; rfl
  obtain ⟨f1, f2, f3, f4⟩ := sig_facts s
  refine rn ?_
  refine sBs tb 0 ?_ (hj := by intro h; exact ⟨rfl, by have h : decide ((0 : Int) < ((s.length : Nat) : Int)) = true := h; have := of_decide_eq_true h; omega⟩)
  refine rn ?_
  refine sBs tb 0 ?_ (hj := by intro h; exact ⟨rfl, by have h : (decide ((0 : Int) < ((s.length : Nat) : Int)) && _) = true := h; have := of_decide_eq_true (Bool.and_eq_true_iff.1 h).1; omega⟩)
  refine rn ?_
  rw [f1]
  refine G.join (fun _ : Unit => [(0, none, S (unsign s)), (4, none, .bool (minus s))]) (fun _ W' => W' = w) ?_ ?_
  rotate_left
  · unfold unsign
    cases hs1 : signed s
    · rw [f3 hs1, if_neg (by simp)]
      refine rn ?_
      exact G.met () (by repeat (first | exact Sub.nil _ | refine Sub.cons rfl ?_)) rfl
    · rw [if_pos rfl]
      obtain ⟨g1, g2⟩ := f2 hs1
      refine rn ?_
      refine sBs tb 0 ?_ (hj := fun _ => ⟨rfl, g2⟩)
      refine rn ?_
      rw [g1]
      refine GL.cons (Step.sliceSl tb 1 rfl (Op1.of rfl (by first | exact fun _ => rfl | exact fun h => h | exact fun h => bL h | exact fun h => bL (bL h) | exact fun h => bL (bL (bL h)))) (Op1.of rfl (by first | exact fun _ => rfl | exact fun h => h | exact fun h => bL h | exact fun h => bL (bL h) | exact fun h => bL (bL (bL h)))) rfl (fun _ => ⟨rfl, g2⟩) rfl ?_)
      refine rn ?_
      exact G.met () (by repeat (first | exact Sub.nil _ | refine Sub.cons rfl ?_)) rfl
  rintro _ w rfl
  clear f1 f2 f3
  generalize unsign s = u at hP f4 ⊢
  generalize minus s = neg at hP ⊢
  refine rn ?_
  refine sCall c151 (lowerR_ok u w (by omega)) ?_
  rintro _ W1 ⟨rfl, hx1⟩
  refine rn ?_
  by_cases h1 : u.map lowB = [110, 97, 110]
  · rw [decide_eq_true h1]
    rw [if_pos h1] at hP
    rw [hP]
    refine rn ?_
    refine sCall c152 (nanR_ok W1) ?_
    rintro _ W2 ⟨rfl, hx2⟩
    refine rn ?_
    refine G.ret2 rfl rfl rfl rfl rfl ?_
    exact ⟨rfl, hx1.trans hx2⟩
  rw [if_neg h1] at hP
  rw [decide_eq_false h1]
  refine rn ?_
  rw [show (decide (u.map lowB = [105, 110, 102]) || decide (u.map lowB = [105, 110, 102, 105, 110, 105, 116, 121])) = decide (u.map lowB = [105, 110, 102] ∨ u.map lowB = [105, 110, 102, 105, 110, 105, 116, 121]) by simp [Bool.decide_or]]
  by_cases h2 : u.map lowB = [105, 110, 102] ∨ u.map lowB = [105, 110, 102, 105, 110, 105, 116, 121]
  · rw [decide_eq_true h2]
    rw [if_pos h2] at hP
    rw [hP]
    refine rn ?_
    rw [show (9218868437227405312 : Int) = ((infB : Nat) : Int) by decide]
    refine sCall c153 (signedR_ok infB neg W1 (by decide)) ?_
    rintro _ W2 ⟨rfl, hx2⟩
    refine rn ?_
    refine G.ret2 rfl rfl rfl rfl rfl ?_
    exact ⟨rfl, hx1.trans hx2⟩
  rw [decide_eq_false h2]
  rw [if_neg h2] at hP
  refine G.condF rfl ?_
  refine rn ?_
  refine sAl tb (us := [.slice none 0 0, .int .i64 0]) (fun W2 hb hs2 hx2 => ?_)
  refine lgN tb 10 ?_
  have hW : w.heap.size ≤ W1.heap.size := hx1.size
  have hx12 := hx1.trans hx2
  clear hx2 hs2
  refine G.join (fun y : Nat × Value × List UInt8 × Nat => [(0, none, S u), (4, none, .bool neg), (6, none, .int .i64 y.1), (7, none, .bool (!decide (y.2.2.1 = []))), (8, none, ptr W1.heap.size), (9, none, .int .i64 ((trimZ y.2.2.1).length : Nat))])
    (fun y W => Ext w W ∧ Bx W W1.heap.size [y.2.1, .int .i64 (-(y.2.2.2 : Nat))] ∧ (∃ l, RtO W W1.heap.size y.2.1 l ∧ vL 10000 l = numL y.2.2.1 0 ∧ l.length ≤ 20 * y.2.2.1.length) ∧ allD y.2.2.1 ∧ y.2.2.1.length ≤ y.1 ∧ y.1 ≤ u.length ∧ splitP u = (y.2.2.1, y.2.2.2, u.drop y.1)) ?_ ?_
  rotate_left
  · refine rn ?_
    refine (G.loop (fun y : Nat × Nat × Value × List UInt8 × Nat => [(0, none, S u), (4, none, .bool neg), (6, none, .int .i64 y.2.1), (7, none, .bool (!decide (y.2.2.2.1 = []))), (8, none, ptr W1.heap.size), (9, none, .int .i64 ((trimZ y.2.2.2.1).length : Nat)), (10, none, .int .i64 y.1)])
      (fun y W => Ext w W ∧ Bx W W1.heap.size [y.2.2.1, .int .i64 (-(y.2.2.2.2 : Nat))] ∧ (∃ l, RtO W W1.heap.size y.2.2.1 l ∧ vL 10000 l = numL y.2.2.2.1 0 ∧ l.length ≤ 20 * y.2.2.2.1.length) ∧ allD y.2.2.2.1 ∧ y.2.2.2.1.length ≤ y.2.1 ∧ y.2.1 ≤ u.length ∧
        ((y.1 = 0 ∧ y.2.1 = 0 ∧ y.2.2.2.1 = [] ∧ y.2.2.2.2 = 0) ∨ (y.1 = 1 ∧ y.2.1 = runD u + 1 ∧ y.2.2.2.1 = u.take (runD u) ∧ y.2.2.2.2 = 0 ∧ (u.drop (runD u)).head? = some 46) ∨ (y.1 = 2 ∧ splitP u = (y.2.2.2.1, y.2.2.2.2, u.drop y.2.1)))) (fun y => 2 - y.1) (0, 0, .slice none 0 0, [], 0) (by repeat (first | exact Sub.nil _ | refine Sub.cons rfl ?_))
      ⟨hx12, hb, ⟨[], RtO.nil _ _, rfl, Nat.le_refl _⟩, allD_nil, Nat.le_refl _, Nat.zero_le _, .inl ⟨rfl, rfl, rfl, rfl⟩⟩ ?_)
    clear hb hx12
    rintro ⟨p, i0, v0, dl, kk⟩ W ⟨hx, hb, hrt, hdl, hdi, hi0, hst⟩
    simp only at hb hrt hdl hdi hi0 hst
    show G _ _ [(0, none, S u), (4, none, .bool neg), (6, none, .int .i64 i0), (7, none, .bool (!decide (dl = []))), (8, none, ptr W1.heap.size), (9, none, .int .i64 ((trimZ dl).length : Nat)), (10, none, .int .i64 p)] _
    refine rn ?_
    by_cases hp2 : p < 2
    rotate_left
    · rw [decide_eq_false (p := ((p : Nat) : Int) < 2) (by omega)]
      obtain ⟨hp, hsp⟩ := (hst.resolve_left (by omega)).resolve_left (by omega)
      refine rn ?_
      exact G.met (i0, v0, dl, kk) (by repeat (first | exact Sub.nil _ | refine Sub.cons rfl ?_)) ⟨hx, hb, hrt, hdl, hdi, hi0, hsp⟩
    rw [decide_eq_true (p := ((p : Nat) : Int) < 2) (by omega)]
    have hkk : kk = 0 := by omega
    subst hkk
    refine rn ?_
    obtain ⟨t, ht⟩ : ∃ t, t = u.drop i0 := ⟨_, rfl⟩
    have htl : t.length = u.length - i0 := by rw [ht, List.length_drop]
    have htg : ∀ j, u.getD (i0 + j) 0 = t.getD j 0 := fun j => by
      rw [ht, List.getD_eq_getElem?_getD, List.getD_eq_getElem?_getD, List.getElem?_drop]
    refine (G.loop (fun y : Nat × Value => [(0, none, S u), (4, none, .bool neg), (6, none, .int .i64 ((i0 + y.1 : Nat) : Int)), (7, none, .bool (!decide (dl ++ t.take y.1 = []))), (8, none, ptr W1.heap.size), (9, none, .int .i64 ((trimZ (dl ++ t.take y.1)).length : Nat)), (10, none, .int .i64 p)])
      (fun y W => Ext w W ∧ Bx W W1.heap.size [y.2, .int .i64 (-((if p = 1 then y.1 else 0 : Nat) : Int))] ∧ (∃ l, RtO W W1.heap.size y.2 l ∧ vL 10000 l = numL (dl ++ t.take y.1) 0 ∧ l.length ≤ 20 * (dl ++ t.take y.1).length) ∧ allD (dl ++ t.take y.1) ∧ y.1 ≤ t.length ∧ ∀ j, j < y.1 → isD (t.getD j 0) = true) (fun y => t.length - y.1) (0, v0) ?_
      ⟨hx, by simpa using hb, by simpa using hrt, by simpa using hdl, Nat.zero_le _, fun j hj => by simp only at hj; omega⟩ ?_)
    · simp only [List.take_zero, List.append_nil]
      exact (by repeat (first | exact Sub.nil _ | refine Sub.cons rfl ?_))
    clear hx hb hrt
    rintro ⟨j, v⟩ W ⟨hx, hb, ⟨l, hl, hlv, hll⟩, hda, hj, hdj⟩
    simp only at hb hl hlv hll hda hj hdj
    show G _ _ [(0, none, S u), (4, none, .bool neg), (6, none, .int .i64 ((i0 + j : Nat) : Int)), (7, none, .bool (!decide (dl ++ t.take j = []))), (8, none, ptr W1.heap.size), (9, none, .int .i64 ((trimZ (dl ++ t.take j)).length : Nat)), (10, none, .int .i64 p)] _
    have hgj := htg j
    have hdlen : (dl ++ t.take j).length ≤ u.length := by rw [List.length_append, List.length_take]; omega
    have htz := trimZ_len (dl ++ t.take j)
    refine rn ?_
    refine sBs tb (i0 + j) ?_ (hj := by intro h; exact ⟨rfl, by have h : decide (((i0 + j : Nat) : Int) < ((u.length : Nat) : Int)) = true := h; have := of_decide_eq_true h; omega⟩)
    rw [hgj]
    refine GL.cons (Step.callX rfl rfl (by repeat (first | exact OpL.nil | refine OpL.cons (Op1.of rfl (by first | exact fun _ => rfl | exact fun h => h | exact fun h => bL h | exact fun h => bL (bL h) | exact fun h => bL (bL (bL h)))) ?_)) c154 rfl (fun hc => digitR_ok (t.getD j 0) W) ?_)
    intro W3 hx3
    have hx := hx.trans hx3
    have hb := hb.to hx3
    have hl := hl.to hx3
    clear hx3
    refine rn ?_
    by_cases hgo : j < t.length ∧ isD (t.getD j 0) = true
    · obtain ⟨hjl, hdi⟩ := hgo
      rw [hdi, decide_eq_true (p := ((i0 + j : Nat) : Int) < ((u.length : Nat) : Int)) (by omega)]
      have htk : t.take (j + 1) = t.take j ++ [t.getD j 0] := take_snoc hjl
      have hc : 48 ≤ (t.getD j 0).toNat ∧ (t.getD j 0).toNat ≤ 57 := by simpa [isD] using hdi
      have hdj2 : ∀ i, i < j + 1 → isD (t.getD i 0) = true := fun i hi => by
        by_cases hji : i = j
        · rw [hji]; exact hdi
        · exact hdj i (by omega)
      have hcn := cnt_snoc hda hc
      have hdn := allD_app hda hc
      have hnm := numL_snoc (dl ++ t.take j) (t.getD j 0) 0
      have hap : dl ++ t.take (j + 1) = (dl ++ t.take j) ++ [t.getD j 0] := by rw [htk, List.append_assoc]
      rw [← hap] at hcn hdn hnm
      have hne : dl ++ t.take (j + 1) ≠ [] := by rw [hap]; simp
      have hnl : (dl ++ t.take (j + 1)).length = (dl ++ t.take j).length + 1 := by rw [hap, List.length_append]; rfl
      clear htk hap hdj hda hdi
      generalize t.getD j 0 = c at *
      generalize hd1e : dl ++ t.take j = d1 at *
      generalize hd2e : dl ++ t.take (j + 1) = d2 at *
      refine rn ?_
      refine G.regionZ 9 [(0, true), (1, true), (2, true), (3, true), (4, true), (5, true), (6, false), (7, false), (8, true)] (Ext W3) (by kernel_rfl) (by kernel_rfl) rfl mixed (Ext.drew W3) rfl rfl ?_
      refine rd ?_
      refine dBs tb (i0 + j) ?_ (hj := fun _ => ⟨rfl, by omega⟩)
      rw [hgj]
      refine GM.read (fun _ _ => Step.arith (k := .u8) (a := (c.toNat : Int)) (b := 48) (r := ((c.toNat - 48 : Nat) : Int)) rfl (Op1.of rfl (by first | exact fun _ => rfl | exact fun h => h | exact fun h => bL h | exact fun h => bL (bL h) | exact fun h => bL (bL (bL h)))) (Op1.of rfl (by first | exact fun _ => rfl | exact fun h => h | exact fun h => bL h | exact fun h => bL (bL h) | exact fun h => bL (bL (bL h)))) ((Go.Vg.wrap_u8 _).trans (by omega)) rfl ⟨rfl, rfl⟩) rfl rfl ?_
      refine rd ?_
      refine GM.eff (Step.convI tb (r := ((c.toNat - 48 : Nat) : Int)) rfl (Op1.of rfl (by first | exact fun _ => rfl | exact fun h => h | exact fun h => bL h | exact fun h => bL (bL h) | exact fun h => bL (bL (bL h)))) rfl rfl (wrap_i64 (by omega) (by omega)) rfl ⟨Ext.drew W3, ?_⟩)
      refine rd ?_
      refine GM.eff (Step.callF rfl rfl rfl c107 rfl (timesO_ok v l 10 (c.toNat - 48) _ (hl.to (Ext.drew W3)).rt (by omega) (by decide) (by decide) (by omega)) (fun v4 W4 hq => ?_))
      obtain ⟨⟨m, hmo, hmn, hmv, hml⟩, hx4⟩ := hq
      refine ⟨(Ext.drew W3).trans hx4, ?_⟩
      refine rd ?_
      refine GM.nil ?_
      have hb4 := hb.to ((Ext.drew W3).trans hx4)
      refine zSf tb (fun W5 hb5 hw5 => ?_)
      have hx5 : Ext w W5 := Below.wr (hx.trans ((Ext.drew W3).trans hx4)) hw5 hW
      have hb5 : Bx W5 W1.heap.size [v4, .int .i64 (-((if p = 1 then j else 0 : Nat) : Int))] := hb5
      have hbl : W1.heap.size < W3.drew.heap.size := hb.lt
      have hm5 : RtO W5 W1.heap.size v4 m := RtO.wr ⟨hmo.mono hbl, hmn⟩ hw5
      have hmv2 : vL 10000 m = numL d2 0 := by rw [hmv, hlv, hnm]; omega
      have hmz : m.length = 0 ↔ numL d2 0 = 0 := by rw [← hmv2]; exact ((hmn.zero (by decide)).trans List.length_eq_zero_iff.symm).symm
      have hms := hm5.ow.sli
      have hmll : (m.map i64C).length = m.length := List.length_map ..
      have hm20 : m.length ≤ 20 * d2.length := by omega
      clear hx4 hmo hmv hml hb4 hw5 hx hl hb
      refine rn ?_
      rw [hmll]
      refine rn ?_
      refine G.join (fun _ : Unit => [(0, none, S u), (4, none, .bool neg), (6, none, .int .i64 ((i0 + j : Nat) : Int)), (8, none, ptr W1.heap.size), (9, none, .int .i64 ((trimZ d2).length : Nat)), (10, none, .int .i64 p)]) (fun _ W' => W' = W5) ?_ ?_
      rotate_left
      · by_cases h0 : m.length = 0
        · obtain ⟨g1, g2⟩ := hcn.1 (hmz.1 h0)
          rw [decide_eq_false (p := (0 : Int) < ((m.length : Nat) : Int)) (by omega), g1]
          rw [g2]
          refine rn ?_
          exact G.met () (by repeat (first | exact Sub.nil _ | refine Sub.cons rfl ?_)) rfl
        · have g1 := hcn.2 (fun h => h0 (hmz.2 h))
          rw [decide_eq_true (p := (0 : Int) < ((m.length : Nat) : Int)) (by omega), g1]
          refine rn ?_
          refine sAd tb (r := (((trimZ d1).length + 1 : Nat) : Int)) ?_
          refine rn ?_
          exact G.met () (by repeat (first | exact Sub.nil _ | refine Sub.cons rfl ?_)) rfl
      rintro _ W5 rfl
      refine rn ?_
      refine G.join (fun _ : Unit => [(0, none, S u), (4, none, .bool neg), (6, none, .int .i64 ((i0 + j : Nat) : Int)), (8, none, ptr W1.heap.size), (9, none, .int .i64 ((trimZ d2).length : Nat)), (10, none, .int .i64 p)]) (fun _ W' => Ext w W' ∧ Bx W' W1.heap.size [v4, .int .i64 (-((if p = 1 then j + 1 else 0 : Nat) : Int))] ∧ RtO W' W1.heap.size v4 m) ?_ ?_
      rotate_left
      · by_cases hp1 : p = 1
        · rw [if_pos hp1] at hb5 ⊢
          rw [decide_eq_true (p := ((p : Nat) : Int) = 1) (by omega)]
          refine rn ?_
          refine sAd tb (r := -((j + 1 : Nat) : Int)) ?_ (hp := (wrap_i64 (n := -((j : Nat) : Int) - 1) (by omega) (by omega)).trans (by omega))
          refine rn ?_
          refine sSf tb (fun W6 hb6 hw6 => ?_)
          have hb6 : Bx W6 W1.heap.size [v4, .int .i64 (-((j + 1 : Nat) : Int))] := hb6
          refine rn ?_
          exact G.met () (by repeat (first | exact Sub.nil _ | refine Sub.cons rfl ?_)) ⟨Below.wr hx5 hw6 hW, hb6, hm5.wr hw6⟩
        · rw [if_neg hp1] at hb5 ⊢
          rw [decide_eq_false (p := ((p : Nat) : Int) = 1) (by omega)]
          refine rn ?_
          exact G.met () (by repeat (first | exact Sub.nil _ | refine Sub.cons rfl ?_)) ⟨hx5, hb5, hm5⟩
      clear hx5 hb5 hm5 hms
      rintro _ W6 ⟨hx6, hb6, hm6⟩
      refine rn ?_
      refine sAd tb (r := ((i0 + (j + 1) : Nat) : Int)) ?_ (hp := (wrap_i64 (n := ((i0 + j : Nat) : Int) + 1) (by omega) (by omega)).trans (by omega))
      refine rn ?_
      refine G.lp (x := (j, v)) (j + 1, v4) ?_ ⟨hx6, hb6, ?_, ?_, hjl, hdj2⟩ (by simp only; omega)
      · simp only [hd2e]
        rw [decide_eq_false hne]
        exact (by repeat (first | exact Sub.nil _ | refine Sub.cons rfl ?_))
      · simp only [hd2e]
        exact ⟨m, hm6, hmv2, hm20⟩
      · simp only [hd2e]
        exact hdn
    · rw [show (decide (((i0 + j : Nat) : Int) < ((u.length : Nat) : Int)) && isD (t.getD j 0)) = false by
        rw [Bool.and_eq_false_iff]
        by_cases h : j < t.length
        · right
          cases h2 : isD (t.getD j 0)
          · rfl
          · exact absurd ⟨h, h2⟩ hgo
        · left
          exact decide_eq_false (by omega)]
      have hrun : runD t = j := runD_eq hj hdj (by
        by_cases h : j < t.length
        · right
          cases h2 : isD (t.getD j 0)
          · rfl
          · exact absurd ⟨h, h2⟩ hgo
        · left; omega)
      have hil : i0 + j ≤ u.length := by omega
      have hdil : (dl ++ t.take j).length ≤ i0 + j := by rw [List.length_append, List.length_take]; omega
      refine rn ?_
      by_cases hp0 : p = 0
      · obtain ⟨_, rfl, rfl, _⟩ := hst.resolve_right (by omega)
        subst hp0
        rw [List.drop_zero] at ht
        subst ht
        subst hrun
        have hhg := head_get (u := t) (r := runD t)
        rw [Nat.zero_add] at hil hdil
        simp only [List.nil_append, Nat.zero_add] at hlv hll hda hdil ⊢
        rw [if_neg (by decide)] at hb
        refine rn ?_
        refine sBs tb (runD t) ?_ (hj := by intro h; exact ⟨rfl, by have h : decide (((runD t : Nat) : Int) < ((t.length : Nat) : Int)) = true := h; have := of_decide_eq_true h; omega⟩)
        refine rn ?_
        rw [hhg]
        by_cases hdot : (t.drop (runD t)).head? = some 46
        · rw [decide_eq_true hdot]
          have hlt : runD t < t.length := by
            apply Nat.lt_of_not_le
            intro h
            rw [List.drop_eq_nil_of_le h] at hdot
            simp at hdot
          refine rn ?_
          refine sAd tb (r := ((runD t + 1 : Nat) : Int)) ?_
          refine rn ?_
          refine sAd tb (r := ((1 : Nat) : Int)) ?_ (hp := rfl)
          refine rn ?_
          exact G.lp (x := (0, 0, v0, [], 0)) (1, runD t + 1, v, t.take (runD t), 0) (by repeat (first | exact Sub.nil _ | refine Sub.cons rfl ?_)) ⟨hx, hb, ⟨l, hl, hlv, hll⟩, hda, by simp only; omega, hlt, .inr (.inl ⟨rfl, rfl, rfl, rfl, hdot⟩)⟩ (by simp only; omega)
        · rw [decide_eq_false hdot]
          refine rn ?_
          exact G.met (runD t, v, t.take (runD t), 0) (by repeat (first | exact Sub.nil _ | refine Sub.cons rfl ?_)) ⟨hx, hb, ⟨l, hl, hlv, hll⟩, hda, hdil, hil, splitP_no hdot⟩
      · obtain ⟨_, rfl, hdle, _, hdot⟩ := (hst.resolve_left (by omega)).resolve_right (by omega)
        have hp1 : p = 1 := by omega
        subst hp1
        rw [if_pos rfl] at hb
        rw [decide_eq_false (p := ((1 : Nat) : Int) = 0) (by decide)]
        refine rn ?_
        refine sAd tb (r := ((2 : Nat) : Int)) ?_ (hp := rfl)
        refine rn ?_
        rw [hdle] at hlv hll hda hdil ⊢
        refine G.lp (x := (1, runD u + 1, v0, dl, 0)) (2, runD u + 1 + j, v, u.take (runD u) ++ t.take j, j) ?_ ⟨hx, hb, ⟨l, hl, hlv, hll⟩, hda, hdil, hil, .inr (.inr ⟨rfl, ?_⟩)⟩ (by simp only; omega)
        · exact (by repeat (first | exact Sub.nil _ | refine Sub.cons rfl ?_))
        · simp only
          rw [ht] at hrun ⊢
          exact splitP_dot hdot hrun
  clear hb hx12
  rintro ⟨i, v, dl, kk⟩ W ⟨hx, hb, ⟨l, hl, hlv, hll⟩, hda, hdi, hi, hsp⟩
  simp only at hb hl hlv hll hda hdi hi hsp
  show G _ _ [(0, none, S u), (4, none, .bool neg), (6, none, .int .i64 i), (7, none, .bool (!decide (dl = []))), (8, none, ptr W1.heap.size), (9, none, .int .i64 ((trimZ dl).length : Nat))] _
  obtain ⟨rest, hrest⟩ : ∃ r, r = u.drop i := ⟨_, rfl⟩
  have hrl : rest.length = u.length - i := by rw [hrest, List.length_drop]
  have hkk : kk ≤ dl.length := by have := (split_len u).2; rw [hsp] at this; exact this
  rw [← hrest] at hsp
  have hrp : readP u = if dl = [] then none else if rest = [] then some (trimZ dl, -(kk : Int)) else match expP rest with
    | none => none
    | some (ng, l) => some (trimZ dl, -(kk : Int) + (if ng then -1 else 1) * ((min (numL l 0) 100000 : Nat) : Int)) := by
    unfold readP; rw [hsp]; rfl
  rw [hrp] at hP
  clear hrp hsp
  have htz := trimZ_len dl
  refine rn ?_
  by_cases hd0 : dl = []
  · rw [if_pos hd0] at hP
    have hP : parseP s = none := hP
    rw [hP, decide_eq_true hd0]
    refine rn ?_
    refine G.ret2 rfl rfl rfl rfl rfl ?_
    exact ⟨rfl, hx⟩
  rw [if_neg hd0] at hP
  rw [decide_eq_false hd0]
  refine rn ?_
  refine G.join (fun X : Int => [(4, none, .bool neg), (8, none, ptr W1.heap.size), (9, none, .int .i64 ((trimZ dl).length : Nat))])
    (fun X W' => Ext w W' ∧ Bx W' W1.heap.size [v, .int .i64 X] ∧ RtO W' W1.heap.size v l ∧ parseP s = some (progBits (trimZ dl) X + sgn neg) ∧ -100000000 ≤ X ∧ X ≤ 100000000) ?_ ?_
  rotate_left
  · rcases rest with _ | ⟨c, r⟩
    · rw [if_pos rfl] at hP
      rw [decide_eq_false (p := ((i : Nat) : Int) < ((u.length : Nat) : Int)) (by simp only [List.length_nil] at hrl; omega)]
      refine rn ?_
      exact G.met (-(kk : Int)) (by repeat (first | exact Sub.nil _ | refine Sub.cons rfl ?_)) ⟨hx, hb, hl, hP, by omega, by omega⟩
    · rw [if_neg (by simp)] at hP
      obtain ⟨n, hn⟩ : ∃ n, n = (c :: r).length := ⟨_, rfl⟩
      have hn0 : 0 < n := by rw [hn]; simp
      rw [← hn] at hrl
      rw [decide_eq_true (p := ((i : Nat) : Int) < ((u.length : Nat) : Int)) (by omega)]
      refine rn ?_
      refine GL.cons (Step.sliceSl tb i rfl (Op1.of rfl (by first | exact fun _ => rfl | exact fun h => h | exact fun h => bL h | exact fun h => bL (bL h) | exact fun h => bL (bL (bL h)))) (Op1.of rfl (by first | exact fun _ => rfl | exact fun h => h | exact fun h => bL h | exact fun h => bL (bL h) | exact fun h => bL (bL (bL h)))) rfl (fun _ => ⟨rfl, by omega⟩) rfl ?_)
      rw [← hrest]
      refine sCall c155 (exponentR_ok c r W (by omega)) ?_
      rintro rv W5 ⟨hr, hx5⟩
      unfold ExpR at hr
      have hb := hb.to hx5
      have hl := hl.to hx5
      have hx := hx.trans hx5
      clear hx5
      have hed : ∀ ng l, expP (c :: r) = some (ng, l) → allD l := fun ng l h => by
        unfold expP at h
        split at h
        · split at h
          · simp at h
          · rename_i h2
            injection h with h
            injection h with _ h
            rw [← h]
            exact runD_all (Decidable.byContradiction fun h3 => h2 (.inr h3))
        · simp at h
      generalize expP (c :: r) = eP at hP hr hed
      rcases eP with _ | ⟨ng, el⟩
      · obtain ⟨x, rfl⟩ := hr
        have hP : parseP s = none := hP
        rw [hP]
        refine rn ?_
        refine G.ret2 rfl rfl rfl rfl rfl ?_
        exact ⟨rfl, hx⟩
      · have hr : rv = .tuple ⟨[.int .i64 ((if ng then -1 else 1) * ((refE el el.length : Nat) : Int)), .bool true]⟩ := hr
        subst hr
        obtain ⟨he1, he2⟩ := refE_eq el (hed ng el rfl) el.length (Nat.le_refl _)
        rw [List.take_length] at he1
        have hP : parseP s = some (progBits (trimZ dl) (-(kk : Int) + (if ng = true then -1 else 1) * ((min (numL el 0) 100000 : Nat) : Int)) + sgn neg) := hP
        generalize refE el el.length = E at he1 he2 ⊢
        generalize numL el 0 = M at he1 hP
        obtain ⟨sg, hsg⟩ : ∃ sg : Int, sg = if ng = true then -1 else 1 := ⟨_, rfl⟩
        have hsg2 : sg = -1 ∨ sg = 1 := by rw [hsg]; split <;> simp
        rw [← hsg] at hP ⊢
        have hfar : progBits (trimZ dl) (-(kk : Int) + sg * ((min M 100000 : Nat) : Int)) = progBits (trimZ dl) (-(kk : Int) + sg * (E : Int)) := by
          refine prog_far (by omega) ?_
          by_cases hM : M ≤ 100000
          · left
            rw [Nat.min_eq_left hM, he1.resolve_right (by omega)]
          · rw [Nat.min_eq_right (by omega)]
            rcases hsg2 with h | h <;> rw [h] <;> omega
        rw [hfar] at hP
        have hXb : -10000009 ≤ sg * (E : Int) ∧ sg * (E : Int) ≤ 10000009 := by rcases hsg2 with h | h <;> rw [h] <;> omega
        generalize sg * (E : Int) = X at *
        refine rn ?_
        refine sAd tb (r := -(kk : Int) + X) ?_ (hp := wrap_i64 (by omega) (by omega))
        refine rn ?_
        refine sSf tb (fun W6 hb6 hw6 => ?_)
        have hb6 : Bx W6 W1.heap.size [v, .int .i64 (-(kk : Int) + X)] := hb6
        refine rn ?_
        exact G.met (-(kk : Int) + X) (by repeat (first | exact Sub.nil _ | refine Sub.cons rfl ?_)) ⟨Below.wr hx hw6 hW, hb6, hl.wr hw6, hP, by omega, by omega⟩
  clear hb hl hx hP hrest
  rintro X W6 ⟨hx, hb, hl, hP, hX1, hX2⟩
  rw [hP]
  refine rn ?_
  refine sCall c156 (nearestR_ok v l X (trimZ dl).length W6 hl.rt (by omega) (by omega) hX1 hX2) ?_
  rintro _ W7 ⟨⟨b, rfl, hbi, hnr⟩, hx7⟩
  have hbP : b = progBits (trimZ dl) X := by
    refine ref_prog hda ?_
    have hzz : vL 10000 l = 0 ↔ trimZ dl = [] := by rw [hlv]; exact numZ hda
    have hnt := numL_trim dl
    rw [hlv] at hnr
    rw [hlv] at hzz
    constructor
    · intro h; exact hnr.zero (h.imp hzz.2 id)
    · intro h h2; exact hnr.inf (fun h3 => h (h3.imp hzz.1 id)) h2
    · intro h h2
      rw [hnt]
      exact hnr.mid (fun h3 => h (h3.imp hzz.1 id)) h2
  subst hbP
  refine rn ?_
  refine sCall c153 (signedR_ok (progBits (trimZ dl) X) neg W7 (progBits_bd _ _)) ?_
  rintro _ W8 ⟨rfl, hx8⟩
  refine rn ?_
  refine G.ret2 rfl rfl rfl rfl rfl ?_
  exact ⟨rfl, (hx.trans hx7).trans hx8⟩
end Go.Proofs.YtcngoccnfmhhnaaGreatDoor
end
section
open Go Go.Vg Go.RowKit Go.Proofs Go.Proofs.YtcngoccnfmhhnaaGreatDoor
namespace Go.Proofs.YtcngoccnfmhhnaaGreatDoor
open Go.Ex

theorem NV.wr {W W' : World} {B c : Nat} {nv vv : Value} {ls : List (List UInt8 × List UInt8)} (h : NV W B nv vv ls) (hw : Wr c W W') (h1 : nv.ownBlock ≠ some c) (h2 : vv.ownBlock ≠ some c) : NV W' B nv vv ls := ⟨h.n.wr2 hw (fun e => h1 e.symm), h.v.wr2 hw (fun e => h2 e.symm), h.ne⟩
theorem int_nil : Num.intP [] = none := by decide
theorem parse_nil : Nm.parseP [] = none := by decide
theorem tokP_drop (s : List UInt8) (i : Nat) : tokP (s.drop i) = if tokN (s.drop i) = 0 then none else some ((s.drop i).take (tokN (s.drop i)), s.drop (i + tokN (s.drop i))) := by
  unfold tokP; rw [List.drop_drop]
/-- what numbers makes of what is behind the labels -/
def NumOk (s nm : List UInt8) (i : Nat) (b : Int) (ls : List (List UInt8 × List UInt8)) (x : Nat) (t : Option Int) (out : List Lab.Lab) : Prop :=
  (i : Int) ≠ b ∧ numsP Num.intP (s.drop i) = some (x, t) ∧ (∀ y ∈ ls, y.1 ≠ nameB) ∧ Lab.newR ((nameB, nm) :: ls) = (0, out)
def NumNo (s nm : List UInt8) (i : Nat) (b : Int) (ls : List (List UInt8 × List UInt8)) : Prop :=
  (i : Int) = b ∨ numsP Num.intP (s.drop i) = none ∨ (∃ y ∈ ls, y.1 = nameB) ∨ (Lab.newR ((nameB, nm) :: ls)).1 ≠ 0
set_option maxHeartbeats 4000000 in
theorem numbers_ok (w : World) (xb : Nat) (s nm : List UInt8) (i : Nat) (b wh wy : Int) (nv vv : Value) (B : Nat) (ls : List (List UInt8 × List UInt8)) (h : Ln w xb s i false wh wy nv vv) (hN : NV w B nv vv ls) (hB : xb < B) (hll : ls.length ≤ 999) (hlz : ∀ x ∈ (nameB, nm) :: ls, Lab.LabSz x) :
    Ret Tryz.prog 101 ⟨[ptr xb, S nm, .int .i64 b]⟩ w fun r w' => Kp xb w w' ∧ ((∃ x t v out, NumOk s nm i b ls x t out ∧ r = .tuple ⟨[.agg ⟨linC v x t⟩, .int .i64 0, .int .i64 0]⟩ ∧ Lab.LO w' w.heap.size v out) ∨ (NumNo s nm i b ls ∧ ∃ a e : Int, e ≠ 0 ∧ r = .tuple ⟨[.agg ⟨linZ⟩, .int .i64 a, .int .i64 e]⟩)) := by
  have hi := h.hi
  have hs := h.hs
  have hxl := h.bx.lt
  have hn1 : ∀ g, nv.ownBlock = some g → g < w.heap.size := fun g hg => (hN.n.lt g hg).2
  have hn2 : ∀ g, vv.ownBlock = some g → g < w.heap.size := fun g hg => (hN.v.lt g hg).2
  obtain ⟨q, hq⟩ : ∃ q, q = w.heap.size := ⟨_, rfl⟩
  rw [← hq] at hxl hn1 hn2 ⊢
  refine ret_of_G Tryz.func101 rfl Tryz.ntmps101 rfl ?_
  simp only [argEnv]
  refine rn ?_
  refine sAl tb (fun W1 hb1 hs1 hx1 => ?_)
  rw [← hq] at hb1 hs1 ⊢
  have hb1 : Bx W1 q linZ := hb1
  have hL1 := h.to hx1
  have hN1 := hN.to hx1
  have hk1 : Kp xb w W1 := hx1.kp
  have hbx1 := hL1.bx
  unfold rlC at hbx1
  refine rn ?_
  first | refine G.condD rfl (fun hc => ?_) (fun hc => ?_) | refine G.condN rfl (fun hc => ?_) (fun hc => ?_) | refine G.cond rfl (fun hc => ?_) (fun hc => ?_)
  · have hno : NumNo s nm i b ls := by
      simp only [Bool.or_eq_true, decide_eq_true_eq] at hc
      rcases hc with hc | hc
      · right; left
        rw [drop_no (by omega)]; rfl
      · exact .inl hc
    refine rn ?_
    have hbd := (hL1.bx).to (Ext.drew W1); have hcd := (hb1).to (Ext.drew W1); refine G.regionM [(0, true), (1, true), (2, true), (3, true), (4, true), (5, false), (6, true), (7, true)] (fun w' => Bx w' xb (rlC s i false wh wy nv vv)) (by kernel_rfl) (by kernel_rfl) rfl mixed (hbd) rfl ?_; (refine rd ?_); refine GM.read (fun w' hS => Step.build tb rfl rfl rfl rfl rfl rfl rfl rfl rfl ⟨rfl, rfl⟩) rfl rfl ?_; (refine rd ?_); refine dLd tb (u := .int .i64 (i : Nat)) ?_ (hc := fun w' hS _ => Bx.ci (i := 1) hS (by exact rfl)); (refine rd ?_); refine GM.eff (Step.store0 (vs := linZ) tb rfl (Op1.of rfl (by first | exact fun _ => rfl | exact fun h => h | exact fun h => bL h | exact fun h => bL (bL h) | exact fun h => bL (bL (bL h)))) (Op1.of rfl (by first | exact fun _ => rfl | exact fun h => h | exact fun h => bL h | exact fun h => bL (bL h) | exact fun h => bL (bL (bL h)))) rfl rfl rfl linZ_one hcd rfl ?_); intro W8 hb8 hw8; refine ⟨hbd.wr hw8 (by omega), ?_⟩; (refine rd ?_); refine GM.nil ?_; (refine rn ?_); refine G.retCTT rfl rfl (RV.agg tb hb8.cells) ?_ rfl rfl rfl rfl
    exact ⟨(hk1.trans (Ext.drew W1).kp).new hw8.kp (by omega), .inr ⟨hno, i, 8, by decide, rfl⟩⟩
  have hib : i < s.length ∧ (i : Int) ≠ b := by
    simp only [Bool.or_eq_false_iff, decide_eq_false_iff_not] at hc
    exact ⟨by omega, hc.2⟩
  clear hc
  refine rn ?_
  refine sAl tb (fun W2 hb2 hs2 hx2 => ?_)
  obtain ⟨c, hcc⟩ : ∃ c, c = W1.heap.size := ⟨_, rfl⟩
  rw [← hcc] at hb2 hs2 ⊢
  have hqc : q < c := by rw [hcc]; exact hb1.lt
  have hb1 := hb1.to hx2
  have hb2 : Bx W2 c (linC (.slice none 0 0) 0 none) := hb2
  have hL2 := hL1.to hx2
  have hN2 := hN1.to hx2
  have hk2 := hk1.trans hx2.kp
  have hbx2 := hL2.bx
  unfold rlC at hbx2
  clear hL1 hN1 hk1 hbx1 hx1 hx2 hs1 hs2
  refine rn ?_
  refine sCall c102 (rtoken_ok s i W2 hi hs) ?_
  rintro _ W3 ⟨rfl, hx3⟩
  have htok := tokP_drop s i
  have htl := tokN_le (s.drop i)
  rw [List.length_drop] at htl
  generalize tokN (s.drop i) = n at htok htl ⊢
  have hb1 := hb1.to hx3
  have hb2 := hb2.to hx3
  have hL3 := hL2.to hx3
  have hN3 := hN2.to hx3
  have hk3 := hk2.trans hx3.kp
  have hbx3 := hL3.bx
  unfold rlC at hbx3
  clear hL2 hN2 hk2 hbx2 hx3
  refine rn ?_
  refine GL.cons (Step.sliceS tb i (i + n) rfl (Op1.of rfl (by first | exact fun _ => rfl | exact fun h => h | exact fun h => bL h | exact fun h => bL (bL h) | exact fun h => bL (bL (bL h)))) (Op1.of rfl (by first | exact fun _ => rfl | exact fun h => h | exact fun h => bL h | exact fun h => bL (bL h) | exact fun h => bL (bL (bL h)))) (Op1.of rfl (by first | exact fun _ => rfl | exact fun h => h | exact fun h => bL h | exact fun h => bL (bL h) | exact fun h => bL (bL (bL h)))) rfl (fun _ => ⟨rfl, rfl, by omega, by omega⟩) rfl ?_)
  rw [show i + n - i = n by omega]
  have htkl : ((s.drop i).take n).length ≤ 1000000000 := by rw [List.length_take, List.length_drop]; omega
  have htk0 : n = 0 → (s.drop i).take n = [] := by intro h; rw [h]; rfl
  generalize (s.drop i).take n = tk at htok htkl htk0 ⊢
  refine rn ?_
  refine sCall c128 (parseR_ok tk W3 (by omega)) ?_
  rintro r W4 ⟨hr, hx4⟩
  unfold ParseR at hr
  have hb1 := hb1.to hx4
  have hb2 := hb2.to hx4
  have hL4 := hL3.to hx4
  have hN4 := hN3.to hx4
  have hk4 := hk3.trans hx4.kp
  clear hL3 hN3 hk3 hbx3 hx4
  have hbx4 := hL4.bx
  unfold rlC at hbx4
  have hnums : numsP Num.intP (s.drop i) = match Nm.parseP tk with
      | none => none
      | some v => if skipB (s.drop (i + n)) = [] then some (v, none) else
        match tokP (skipB (s.drop (i + n))) with
        | none => none
        | some (t2, l2) => match Num.intP t2 with
          | none => none
          | some n => if n < -9007199254740992 ∨ 9007199254740992 < n then none else if skipB l2 = [] then some (v, some n) else none := by
    unfold numsP
    rw [htok]
    by_cases hn0 : n = 0
    · rw [if_pos hn0, htk0 hn0, parse_nil]
    · rw [if_neg hn0]
      try rfl
  cases hp : Nm.parseP tk with
  | none =>
    rw [hp] at hr hnums
    subst hr
    refine rn ?_
    have hbd := (hL4.bx).to (Ext.drew W4); have hcd := (hb1).to (Ext.drew W4); refine G.regionM [(0, true), (1, true), (2, true), (3, true), (4, true), (5, false), (6, true), (7, true)] (fun w' => Bx w' xb (rlC s i false wh wy nv vv)) (by kernel_rfl) (by kernel_rfl) rfl mixed (hbd) rfl ?_; (refine rd ?_); refine GM.read (fun w' hS => Step.build tb rfl rfl rfl rfl rfl rfl rfl rfl rfl ⟨rfl, rfl⟩) rfl rfl ?_; (refine rd ?_); refine dLd tb (u := .int .i64 (i : Nat)) ?_ (hc := fun w' hS _ => Bx.ci (i := 1) hS (by exact rfl)); (refine rd ?_); refine GM.eff (Step.store0 (vs := linZ) tb rfl (Op1.of rfl (by first | exact fun _ => rfl | exact fun h => h | exact fun h => bL h | exact fun h => bL (bL h) | exact fun h => bL (bL (bL h)))) (Op1.of rfl (by first | exact fun _ => rfl | exact fun h => h | exact fun h => bL h | exact fun h => bL (bL h) | exact fun h => bL (bL (bL h)))) rfl rfl rfl linZ_one hcd rfl ?_); intro W8 hb8 hw8; refine ⟨hbd.wr hw8 (by omega), ?_⟩; (refine rd ?_); refine GM.nil ?_; (refine rn ?_); refine G.retCTT rfl rfl (RV.agg tb hb8.cells) ?_ rfl rfl rfl rfl
    exact ⟨(hk4.trans (Ext.drew W4).kp).new hw8.kp (by omega), .inr ⟨.inr (.inl hnums), i, 8, by decide, rfl⟩⟩
  | some x =>
  rw [hp] at hr hnums
  subst hr
  simp only at hnums
  unfold linC at hb2
  refine rn ?_
  refine sSf tb (fun W5 hb5 hw5 => ?_) (h1 := by simp [Value.oneCell', Fl])
  have hb5 : Bx W5 c (linC (.slice none 0 0) x none) := hb5
  have hb1 := hb1.wr hw5 (by omega)
  have hL5 := hL4.kp hw5.kp (by omega)
  have hN5 := hN4.wr hw5 (fun e => by have := hn1 _ e; omega) (fun e => by have := hn2 _ e; omega)
  have hk5 := hk4.new hw5.kp (by omega)
  clear hL4 hN4 hk4 hbx4 hb2 hw5
  have hbx5 := hL5.bx
  unfold rlC at hbx5
  refine rn ?_
  refine sCall c29 (skip_ok s (i + n) W5 (by omega) hs) ?_
  rintro _ W6 ⟨rfl, hx6⟩
  have hsk := skipB_drop s (i + n)
  have hbl := bls_le (s.drop (i + n))
  rw [List.length_drop] at hbl
  rw [hsk] at hnums
  have hk2l : i + n + bls (s.drop (i + n)) ≤ s.length := by omega
  generalize i + n + bls (s.drop (i + n)) = k at hk2l hnums ⊢
  have hb1 := hb1.to hx6
  have hb5 := hb5.to hx6
  have hL6 := hL5.to hx6
  have hN6 := hN5.to hx6
  have hk6 := hk5.trans hx6.kp
  have hbx6 := hL6.bx
  unfold rlC at hbx6
  refine rn ?_
  refine sSf tb (fun W7 hb7 hw7 => ?_)
  have hL7 : Ln W7 xb s k false wh wy nv vv := ⟨hb7, hk2l, hs, (by intro h; cases h)⟩
  have hb1 := hb1.wr hw7 (by omega)
  have hb5 := hb5.wr hw7 (by omega)
  have hN7 := hN6.kp hw7.kp hB
  have hk7 := hk6.trans hw7.kp
  clear hL5 hN5 hk5 hbx5 hL6 hN6 hk6 hbx6 hx6 hb7 hw7 hsk hbl
  have hbx7 := hL7.bx
  unfold rlC at hbx7
  refine rn ?_
  refine G.join (fun y : Option Int => [(0, none, ptr xb), (1, none, S nm), (6, none, ptr q), (10, none, ptr c)]) (fun y W => ∃ k, Ln W xb s k false wh wy nv vv ∧ Bx W q linZ ∧ Bx W c (linC (.slice none 0 0) x y) ∧ NV W B nv vv ls ∧ Kp xb w W ∧ c < W.heap.size ∧ numsP Num.intP (s.drop i) = some (x, y)) ?_ ?_
  · rintro y W ⟨k, hL, hbz, hbc, hN, hk, hcl, hnum⟩
    have hbx := hL.bx
    unfold rlC at hbx
    have hqw : q ≤ W.heap.size := by omega
    clear hL7 hb1 hb5 hN7 hk7 hbx7 hnums
    refine rn ?_
    refine sBs' tb [Lab.labC (nameB, nm)] (fun us W1 ho1 hs1 hx1 => ?_) (hkl := by simp [Lab.labC])
    have hL1 := hL.to hx1
    have hbz1 := hbz.to hx1
    have hbc1 := hbc.to hx1
    have hN1 := hN.to hx1
    have hk1 := hk.trans hx1.kp
    have hcl1 := hbc1.lt
    have hso1 : Lab.LO W1 W.heap.size us ((nameB, nm) :: ls.take 0) := ho1
    clear hL hbz hbc hN hk hbx
    refine rn ?_
    refine (G.loop (fun z : Nat × Value => [(0, none, ptr xb), (6, none, ptr q), (10, none, ptr c), (16, none, z.2), (17, none, .int .i64 z.1)]) (fun z W2 => z.1 ≤ ls.length ∧ Ln W2 xb s k false wh wy nv vv ∧ Bx W2 q linZ ∧ Bx W2 c (linC (.slice none 0 0) x y) ∧ NV W2 B nv vv ls ∧ Kp xb w W2 ∧ W.heap.size ≤ W2.heap.size ∧ Lab.LO W2 W.heap.size z.2 ((nameB, nm) :: ls.take z.1) ∧ ∀ x ∈ ls.take z.1, x.1 ≠ nameB) (fun z => ls.length - z.1) (0, us) (by repeat (first | exact Sub.nil _ | refine Sub.cons rfl ?_)) ⟨Nat.zero_le _, hL1, hbz1, hbc1, hN1, hk1, hx1.size, hso1, by simp⟩ ?_)
    clear hL1 hbz1 hbc1 hN1 hk1 hso1 ho1 hs1 hcl1
    rintro ⟨j, v⟩ W2 ⟨hj, hL, hbz, hbc, hN, hk, hW2, hso, hno⟩
    simp only at hj hso hno ⊢
    have hbx := hL.bx
    unfold rlC at hbx
    have hns := hN.n.sli
    have hvs := hN.v.sli
    have hnl : ((ls.map (·.1)).map strC).length = ls.length := by simp
    have hvl : ((ls.map (·.2)).map strC).length = ls.length := by simp
    refine rn ?_
    first | refine G.condD rfl (fun hc => ?_) (fun hc => ?_) | refine G.condN rfl (fun hc => ?_) (fun hc => ?_) | refine G.cond rfl (fun hc => ?_) (fun hc => ?_)
    · have hlt : j < ls.length := by omega
      obtain ⟨y2, hy2⟩ : ∃ z, ls[j]? = some z := ⟨_, List.getElem?_eq_getElem hlt⟩
      have hget1 : ((ls.map (·.1)).map strC)[j]? = some [S y2.1] := by simp [hy2, strC]
      have hget2 : ((ls.map (·.2)).map strC)[j]? = some [S y2.2] := by simp [hy2, strC]
      have htk : ls.take (j + 1) = ls.take j ++ [y2] := by rw [List.take_add_one, hy2]; rfl
      refine rn ?_
      refine sIa tb j ?_ (hs := fun _ => ⟨_, hns⟩) (hj := fun _ => ⟨rfl, by rw [hnl]; exact hlt⟩)
      refine rn ?_
      first | refine G.condD rfl (fun hc => ?_) (fun hc => ?_) | refine G.condN rfl (fun hc => ?_) (fun hc => ?_) | refine G.cond rfl (fun hc => ?_) (fun hc => ?_)
      · refine rn ?_
        refine sSt tb (fun W9 hb9 hw9 => ?_) (vs := linZ) (hv := rfl) (h1 := linZ_one) (hb := hbz)
        refine rn ?_
        refine G.retCTT rfl rfl (RV.agg tb hb9.cells) ?_ rfl rfl rfl rfl
        exact ⟨hk.new hw9.kp (by omega), .inr ⟨.inr (.inr (.inl ⟨y2, List.mem_of_getElem? hy2, hc⟩)), 0, 2, by decide, rfl⟩⟩
      have hne : y2.1 ≠ nameB := hc
      clear hc
      refine rn ?_
      have hbd := hL.bx.to (Ext.drew W2)
      have hNd := hN.to (Ext.drew W2)
      have hkd := hk.trans (Ext.drew W2).kp
      have hLd := hL.to (Ext.drew W2)
      have hbzd := hbz.to (Ext.drew W2)
      have hbcd := hbc.to (Ext.drew W2)
      have hsod := hso.to (Ext.drew W2)
      have hWd : W.heap.size ≤ W2.drew.heap.size := hW2
      refine G.regionM [(0, true), (1, true), (2, true), (3, true), (4, true), (5, true), (6, true), (7, true), (8, true), (9, true), (10, true), (11, true), (12, true), (13, true), (14, true), (15, true), (16, false), (17, false), (18, true)] (fun w' => Bx w' xb (rlC s k false wh wy nv vv) ∧ NV w' B nv vv ls) (by kernel_rfl) (by kernel_rfl) rfl mixed (⟨hbd, hNd⟩) rfl ?_
      refine rd ?_
      refine dLd tb (u := nv) ?_ (hc := fun w' hS _ => Bx.ci (i := 5) hS.1 (by exact rfl))
      refine rd ?_
      refine dIa tb j ?_ (hs := fun _ => ⟨_, hns⟩) (hj := fun _ => ⟨rfl, by rw [hnl]; exact hlt⟩)
      refine dLd tb (u := S y2.1) ?_ (hc := fun w' hS _ => (Sli.elem hS.2.n.sli hget1).c0 (by exact rfl))
      refine rd ?_
      refine dLd tb (u := vv) ?_ (hc := fun w' hS _ => Bx.ci (i := 6) hS.1 (by exact rfl))
      refine rd ?_
      refine dIa tb j ?_ (hs := fun _ => ⟨_, hvs⟩) (hj := fun _ => ⟨rfl, by rw [hvl]; exact hlt⟩)
      refine dLd tb (u := S y2.2) ?_ (hc := fun w' hS _ => (Sli.elem hS.2.v.sli hget2).c0 (by exact rfl))
      refine rd ?_
      refine GM.read (fun w' hS => Step.build tb rfl rfl rfl rfl rfl rfl rfl rfl rfl ⟨rfl, rfl⟩) rfl rfl ?_
      refine rd ?_
      refine GM.eff (Step.buildSlice tb [Lab.labC y2] rfl rfl rfl rfl rfl rfl (by rfl) rfl (by kernel_rfl) (by rfl) (by rfl) (by simp [Lab.labC]) rfl ?_)
      intro us2 W3 ho3 hs3 hx3
      refine ⟨⟨hbd.to hx3, hNd.to hx3⟩, ?_⟩
      refine rd ?_
      have hso3 := hsod.to hx3
      have hs3z := hx3.size
      have hbl3 := hbzd.to hx3
      refine GM.eff (Step.append tb rfl (Op1.of rfl (by first | exact fun _ => rfl | exact fun h => h | exact fun h => bL h | exact fun h => bL (bL h) | exact fun h => bL (bL (bL h)))) (Op1.of rfl (by first | exact fun _ => rfl | exact fun h => h | exact fun h => bL h | exact fun h => bL (bL h) | exact fun h => bL (bL (bL h)))) rfl rfl rfl (by rfl) hso3 ho3.sli (by intro z hz d hd; obtain rfl := List.mem_singleton.1 hz; simp only [Lab.labC, List.mem_cons, List.not_mem_nil, or_false] at hd; rcases hd with rfl | rfl <;> rfl) (by simp only [List.length_map, List.length_cons, List.length_nil, List.length_take]; omega) (by simp only [List.length_map, List.length_cons, List.length_nil, List.length_take]; omega) (by omega) rfl ?_)
      intro v' W4 hv4 hg4
      have hv4 : Lab.LO W4 W.heap.size v' ((nameB, nm) :: ls.take (j + 1)) := by
        unfold Lab.LO
        rw [htk, ← List.cons_append, List.map_append]
        exact hv4
      have off : ∀ g, g < W.heap.size → some g ≠ v.ownBlock := fun g hg e => by have := (hso.lt g e.symm).1; omega
      have hbx4 : Bx W4 xb (rlC s k false wh wy nv vv) := (hbd.to hx3).grew hg4 (off _ (by omega))
      have hN4 : NV W4 B nv vv ls := ⟨(hNd.to hx3).n.grew hg4 (fun b hb => off b (by have := hn1 b hb.symm; omega)), (hNd.to hx3).v.grew hg4 (fun b hb => off b (by have := hn2 b hb.symm; omega)), hNd.ne⟩
      refine ⟨⟨hbx4, hN4⟩, ?_⟩
      refine rd ?_
      refine GM.nil ?_
      have hk4 : Kp xb w W4 := kp_below (hkd.trans hx3.kp) (hg4.bl.mono (by omega))
      refine rn ?_
      refine sAd tb ?_
      refine rn ?_
      refine G.lp (x := (j, v)) (j + 1, v') (by repeat (first | exact Sub.nil _ | refine Sub.cons rfl ?_)) ⟨hlt, ⟨hbx4, hL.hi, hs, (by intro h; cases h)⟩, (hbzd.to hx3).grew hg4 (off _ (by omega)), (hbcd.to hx3).grew hg4 (off _ (by omega)), hN4, hk4, by have := hg4.size; omega, hv4, ?_⟩ (by show ls.length - (j + 1) < ls.length - j; omega)
      intro z hz
      rw [show (j + 1, v').1 = j + 1 from rfl, htk] at hz
      rcases List.mem_append.1 hz with h | h
      · exact hno z h
      · rw [List.mem_singleton.1 h]; exact hne
    · have hje : j = ls.length := by omega
      subst hje
      rw [List.take_of_length_le (Nat.le_refl _)] at hso hno
      refine rn ?_
      refine sCall c39 (Lab.refNew_ok v ((nameB, nm) :: ls) W2 hso.sli (by simp only [List.length_cons]; omega) hlz) ?_
      rintro _ W3 ⟨st, rfl, ho3, hx3⟩
      have hL3 := hL.to hx3
      have hbz3 := hbz.to hx3
      have hbc3 := hbc.to hx3
      have hk3 := hk.trans hx3.kp
      have hcl3 := hbc3.lt
      generalize hnew : Lab.newR ((nameB, nm) :: ls) = R at ho3 ⊢
      obtain ⟨e, out⟩ := R
      simp only at ho3 ⊢
      refine rn ?_
      first | refine G.condD rfl (fun hc => ?_) (fun hc => ?_) | refine G.condN rfl (fun hc => ?_) (fun hc => ?_) | refine G.cond rfl (fun hc => ?_) (fun hc => ?_)
      · have he : e ≠ 0 := by simpa using hc
        refine rn ?_
        refine sSt tb (fun W9 hb9 hw9 => ?_) (vs := linZ) (hv := rfl) (h1 := linZ_one) (hb := hbz3)
        refine rn ?_
        refine G.retCTT rfl rfl (RV.agg tb hb9.cells) ?_ rfl rfl rfl rfl
        exact ⟨hk3.new hw9.kp (by omega), .inr ⟨.inr (.inr (.inr (by rw [hnew]; exact he))), 0, e, he, rfl⟩⟩
      · have he : e = 0 := by simpa using hc
        subst he
        unfold linC at hbc3
        have hcl := ho3.cells
        have hone : st.oneCell' = true := ho3.sli.one st (List.mem_singleton.2 rfl)
        refine rn ?_
        refine sSf tb (fun W8 hb8 hw8 => ?_) (vs := [st]) (hv := hcl) (h1 := by
          intro z hz
          obtain rfl := List.mem_singleton.1 hz
          exact hone)
        have hb8 : Bx W8 c (linC st x y) := hb8
        have ho8 : Lab.LO W8 W2.heap.size st out := ho3.kp hw8.kp (by have := hbc.lt; omega)
        have hbz8 := hbz3.wr hw8 (by omega)
        unfold linC at hb8
        refine rn ?_
        refine sSt tb (fun W9 hb9 hw9 => ?_) (vs := linC st x y) (hv := rfl) (h1 := linC_one hone) (hb := hbz8)
        have ho9 : Lab.LO W9 W2.heap.size st out := ho8.kp hw9.kp (by have := hbz.lt; omega)
        refine rn ?_
        refine G.retCTT rfl rfl (RV.agg tb hb9.cells) ?_ rfl rfl rfl rfl
        exact ⟨(hk3.new hw8.kp (by omega)).new hw9.kp (by omega), .inl ⟨x, y, st, out, ⟨hib.2, hnum, hno, hnew⟩, rfl, ho9.mono (by omega)⟩⟩
  · first | refine G.condD rfl (fun hc => ?_) (fun hc => ?_) | refine G.condN rfl (fun hc => ?_) (fun hc => ?_) | refine G.cond rfl (fun hc => ?_) (fun hc => ?_)
    · have hlt : k < s.length := by omega
      have hne : ¬ s.drop k = [] := by rw [drop_at hlt]; simp
      rw [if_neg hne] at hnums
      have htok2 := tokP_drop s k
      refine rn ?_
      refine sCall c102 (rtoken_ok s k W7 hk2l hs) ?_
      rintro _ W8 ⟨rfl, hx8⟩
      have htl2 := tokN_le (s.drop k)
      rw [List.length_drop] at htl2
      generalize tokN (s.drop k) = n2 at htok2 htl2 ⊢
      have hb1 := hb1.to hx8
      have hb5 := hb5.to hx8
      have hL8 := hL7.to hx8
      have hN8 := hN7.to hx8
      have hk8 := hk7.trans hx8.kp
      have hbx8 := hL8.bx
      unfold rlC at hbx8
      clear hL7 hN7 hk7 hbx7 hx8
      refine rn ?_
      refine GL.cons (Step.sliceS tb k (k + n2) rfl (Op1.of rfl (by first | exact fun _ => rfl | exact fun h => h | exact fun h => bL h | exact fun h => bL (bL h) | exact fun h => bL (bL (bL h)))) (Op1.of rfl (by first | exact fun _ => rfl | exact fun h => h | exact fun h => bL h | exact fun h => bL (bL h) | exact fun h => bL (bL (bL h)))) (Op1.of rfl (by first | exact fun _ => rfl | exact fun h => h | exact fun h => bL h | exact fun h => bL (bL h) | exact fun h => bL (bL (bL h)))) rfl (fun _ => ⟨rfl, rfl, by omega, by omega⟩) rfl ?_)
      rw [show k + n2 - k = n2 by omega]
      have htkl2 : ((s.drop k).take n2).length ≤ 1000000000 := by rw [List.length_take, List.length_drop]; omega
      have htk2 : n2 = 0 → (s.drop k).take n2 = [] := by intro h; rw [h]; rfl
      generalize (s.drop k).take n2 = tk2 at htok2 htkl2 htk2 ⊢
      refine rn ?_
      refine sCall c129 (Num.refInt_ok tk2 W8 (by omega)) ?_
      rintro _ W9 ⟨⟨m, e, rfl, hme⟩, hx9⟩
      have hb1 := hb1.to hx9
      have hb5 := hb5.to hx9
      have hL9 := hL8.to hx9
      have hN9 := hN8.to hx9
      have hk9 := hk8.trans hx9.kp
      have hbx9 := hL9.bx
      unfold rlC at hbx9
      clear hL8 hN8 hk8 hbx8 hx9
      refine rn ?_
      first | refine G.condD rfl (fun hc => ?_) (fun hc => ?_) | refine G.condN rfl (fun hc => ?_) (fun hc => ?_) | refine G.cond rfl (fun hc => ?_) (fun hc => ?_)
      · have hno : numsP Num.intP (s.drop i) = none := by
          rw [hnums, htok2]
          by_cases hn2 : n2 = 0
          · rw [if_pos hn2]
          rw [if_neg hn2]
          simp only
          rcases hme with ⟨rfl, h2⟩ | ⟨rfl, h2⟩
          · rw [h2]
            simp only
            rw [if_pos]
            simpa using hc
          · rw [h2]
        refine rn ?_
        have hbd := (hL9.bx).to (Ext.drew W9); have hcd := (hb1).to (Ext.drew W9); refine G.regionM [(0, true), (1, true), (2, true), (3, true), (4, true), (5, false), (6, true), (7, true)] (fun w' => Bx w' xb (rlC s k false wh wy nv vv)) (by kernel_rfl) (by kernel_rfl) rfl mixed (hbd) rfl ?_; (refine rd ?_); refine GM.read (fun w' hS => Step.build tb rfl rfl rfl rfl rfl rfl rfl rfl rfl ⟨rfl, rfl⟩) rfl rfl ?_; (refine rd ?_); refine dLd tb (u := .int .i64 (k : Nat)) ?_ (hc := fun w' hS _ => Bx.ci (i := 1) hS (by exact rfl)); (refine rd ?_); refine GM.eff (Step.store0 (vs := linZ) tb rfl (Op1.of rfl (by first | exact fun _ => rfl | exact fun h => h | exact fun h => bL h | exact fun h => bL (bL h) | exact fun h => bL (bL (bL h)))) (Op1.of rfl (by first | exact fun _ => rfl | exact fun h => h | exact fun h => bL h | exact fun h => bL (bL h) | exact fun h => bL (bL (bL h)))) rfl rfl rfl linZ_one hcd rfl ?_); intro W8 hb8 hw8; refine ⟨hbd.wr hw8 (by omega), ?_⟩; (refine rd ?_); refine GM.nil ?_; (refine rn ?_); refine G.retCTT rfl rfl (RV.agg tb hb8.cells) ?_ rfl rfl rfl rfl
        exact ⟨(hk9.trans (Ext.drew W9).kp).new hw8.kp (by omega), .inr ⟨.inr (.inl hno), k, 8, by decide, rfl⟩⟩
      have he0 : e = 0 := by
        simp only [Bool.or_eq_false_iff, Bool.not_eq_false', decide_eq_true_eq] at hc
        exact hc.1.1
      subst he0
      have hm2 : Num.intP tk2 = some m := by
        rcases hme with ⟨_, h⟩ | ⟨h, _⟩
        · exact h
        · cases h
      clear hme
      have hn20 : ¬ n2 = 0 := by
        intro h
        rw [htk2 h, int_nil] at hm2; cases hm2
      have hrng : ¬ (m < -9007199254740992 ∨ 9007199254740992 < m) := by
        simp only [Bool.or_eq_false_iff, Bool.not_eq_false', decide_eq_true_eq, decide_eq_false_iff_not] at hc
        omega
      rw [htok2, if_neg hn20] at hnums
      simp only at hnums
      rw [hm2] at hnums
      simp only at hnums
      rw [if_neg hrng] at hnums
      clear hc
      refine rn ?_
      refine sCall c29 (skip_ok s (k + n2) W9 (by omega) hs) ?_
      rintro _ W10 ⟨rfl, hx10⟩
      have hsk := skipB_drop s (k + n2)
      have hbl := bls_le (s.drop (k + n2))
      rw [List.length_drop] at hbl
      rw [hsk] at hnums
      have hk3l : k + n2 + bls (s.drop (k + n2)) ≤ s.length := by omega
      generalize k + n2 + bls (s.drop (k + n2)) = k3 at hk3l hnums ⊢
      have hb1 := hb1.to hx10
      have hb5 := hb5.to hx10
      have hL10 := hL9.to hx10
      have hN10 := hN9.to hx10
      have hk10 := hk9.trans hx10.kp
      have hbx10 := hL10.bx
      unfold rlC at hbx10
      refine rn ?_
      refine sSf tb (fun W11 hb11 hw11 => ?_)
      have hL11 : Ln W11 xb s k3 false wh wy nv vv := ⟨hb11, hk3l, hs, (by intro h; cases h)⟩
      have hb1 := hb1.wr hw11 (by omega)
      have hb5 := hb5.wr hw11 (by omega)
      have hN11 := hN10.kp hw11.kp hB
      have hk11 := hk10.trans hw11.kp
      clear hL9 hN9 hk9 hbx9 hL10 hN10 hk10 hbx10 hx10 hb11 hw11 hsk hbl
      have hbx11 := hL11.bx
      unfold rlC at hbx11
      refine rn ?_
      first | refine G.condD rfl (fun hc => ?_) (fun hc => ?_) | refine G.condN rfl (fun hc => ?_) (fun hc => ?_) | refine G.cond rfl (fun hc => ?_) (fun hc => ?_)
      · have hlt3 : k3 < s.length := by omega
        rw [if_neg (by rw [drop_at hlt3]; simp)] at hnums
        refine rn ?_
        have hbd := (hL11.bx).to (Ext.drew W11); have hcd := (hb1).to (Ext.drew W11); refine G.regionM [(0, true), (1, true), (2, true), (3, true), (4, true), (5, false), (6, true), (7, true)] (fun w' => Bx w' xb (rlC s k3 false wh wy nv vv)) (by kernel_rfl) (by kernel_rfl) rfl mixed (hbd) rfl ?_; (refine rd ?_); refine GM.read (fun w' hS => Step.build tb rfl rfl rfl rfl rfl rfl rfl rfl rfl ⟨rfl, rfl⟩) rfl rfl ?_; (refine rd ?_); refine dLd tb (u := .int .i64 (k3 : Nat)) ?_ (hc := fun w' hS _ => Bx.ci (i := 1) hS (by exact rfl)); (refine rd ?_); refine GM.eff (Step.store0 (vs := linZ) tb rfl (Op1.of rfl (by first | exact fun _ => rfl | exact fun h => h | exact fun h => bL h | exact fun h => bL (bL h) | exact fun h => bL (bL (bL h)))) (Op1.of rfl (by first | exact fun _ => rfl | exact fun h => h | exact fun h => bL h | exact fun h => bL (bL h) | exact fun h => bL (bL (bL h)))) rfl rfl rfl linZ_one hcd rfl ?_); intro W8 hb8 hw8; refine ⟨hbd.wr hw8 (by omega), ?_⟩; (refine rd ?_); refine GM.nil ?_; (refine rn ?_); refine G.retCTT rfl rfl (RV.agg tb hb8.cells) ?_ rfl rfl rfl rfl
        exact ⟨(hk11.trans (Ext.drew W11).kp).new hw8.kp (by omega), .inr ⟨.inr (.inl hnums), k3, 8, by decide, rfl⟩⟩
      rw [if_pos (drop_no (by omega))] at hnums
      unfold linC at hb5
      refine rn ?_
      refine sSf tb (fun W12 hb12 hw12 => ?_)
      have hb12 : Bx W12 c [.slice none 0 0, Fl x, .int .i64 m, .bool false] := hb12
      refine rn ?_
      refine sSf tb (fun W13 hb13 hw13 => ?_)
      have hb13 : Bx W13 c (linC (.slice none 0 0) x (some m)) := hb13
      refine rn ?_
      exact G.met (some m) (by repeat (first | exact Sub.nil _ | refine Sub.cons rfl ?_)) ⟨k3, (hL11.kp hw12.kp (by omega)).kp hw13.kp (by omega), (hb1.wr hw12 (by omega)).wr hw13 (by omega), hb13, (hN11.wr hw12 (fun e => by have := hn1 _ e; omega) (fun e => by have := hn2 _ e; omega)).wr hw13 (fun e => by have := hn1 _ e; omega) (fun e => by have := hn2 _ e; omega), (hk11.new hw12.kp (by omega)).new hw13.kp (by omega), hb13.lt, hnums⟩
    · have hk : k = s.length := by omega
      subst hk
      rw [if_pos (drop_no (by omega))] at hnums
      refine rn ?_
      exact G.met none (by repeat (first | exact Sub.nil _ | refine Sub.cons rfl ?_)) ⟨s.length, hL7, hb1, hb5, hN7, hk7, hb5.lt, hnums⟩
end Go.Proofs.YtcngoccnfmhhnaaGreatDoor
end
section
open Go Go.Vg Go.RowKit Go.Proofs Go.Proofs.YtcngoccnfmhhnaaGreatDoor
namespace Go.Proofs.YtcngoccnfmhhnaaGreatDoor
open Go.Ex

theorem NV.mono {W : World} {B B' : Nat} {nv vv : Value} {ls : List (List UInt8 × List UInt8)} (h : NV W B nv vv ls) (hB : B' ≤ B) : NV W B' nv vv ls := ⟨h.n.mono hB, h.v.mono hB, h.ne⟩
theorem NV.nil (W : World) (B : Nat) : NV W B (.slice none 0 0) (.slice none 0 0) [] := ⟨Owns.nil _ _ _ _, Owns.nil _ _ _ _, by simp [Value.ownBlock]⟩
def ROk (s : List UInt8) (L : LineS) (out : List Lab.Lab) : Prop := sampleP Num.intP s = some L ∧ (∀ y ∈ L.labs, y.1 ≠ nameB) ∧ Lab.newR ((nameB, L.name) :: L.labs) = (0, out)
def RNo (s : List UInt8) : Prop := sampleP Num.intP s = none ∨ ∃ L, sampleP Num.intP s = some L ∧ ((∃ y ∈ L.labs, y.1 = nameB) ∨ (Lab.newR ((nameB, L.name) :: L.labs)).1 ≠ 0)
theorem labsP_few {l r : List UInt8} {ls : List (List UInt8 × List UInt8)} (h : labsP l = some (ls, r)) : 4 * ls.length ≤ l.length ∧ ∀ x ∈ ls, x.1.length ≤ l.length ∧ x.2.length ≤ l.length := by
  unfold labsP at h
  split at h
  · cases h
  · rename_i l1 h1
    have := mustP_len h1
    split at h
    · cases h
    · rename_i q l2 h2
      split at h
      · cases h
      · simp only [Option.some.injEq, Prod.mk.injEq] at h
        obtain ⟨rfl, rfl⟩ := h
        obtain ⟨h3, h4⟩ := labGo_len _ _ _ _ _ h2
        have := skipB_len l1
        simp only [List.length_nil] at h3
        exact ⟨by omega, h4 _ (by omega) (by simp)⟩
set_option maxHeartbeats 4000000 in
theorem rread_ok (w : World) (s : List UInt8) (hs : s.length ≤ 3000) (hnl : ∀ k : Nat, s[k]? ≠ some 10) :
    Ret Tryz.prog 68 ⟨[S s]⟩ w (WholeS (ROk s) (RNo s) w) := by
  refine ret_of_G Tryz.func68 rfl Tryz.ntmps68 rfl ?_
  simp only [argEnv]
  refine rn ?_
  refine sAl tb (fun W1 hb1 hs1 hx1 => ?_)
  obtain ⟨q, hq⟩ : ∃ q, q = w.heap.size := ⟨_, rfl⟩
  rw [← hq] at hb1 hs1 ⊢
  have hb1 : Bx W1 q linZ := hb1
  refine rn ?_
  refine sBox (us := rlC s 0 false 0 0 (.slice none 0 0) (.slice none 0 0)) (fun W2 hb2 hs2 hx2 => ?_) (hv := rfl)
  obtain ⟨xb, hxb⟩ : ∃ xb, xb = W1.heap.size := ⟨_, rfl⟩
  rw [← hxb] at hb2 hs2 ⊢
  have hqx : q < xb := by rw [hxb]; exact hb1.lt
  have hbz2 := hb1.to hx2
  have hL2 : Ln W2 xb s 0 false 0 0 (.slice none 0 0) (.slice none 0 0) := ⟨hb2, Nat.zero_le _, by omega, (by intro h; cases h)⟩
  have hx02 := hx1.trans hx2
  have hwx : w.heap.size ≤ xb := by omega
  clear hb1 hb2 hs1 hx1 hx2
  have hbx2 := hL2.bx
  unfold rlC at hbx2
  refine rn ?_
  refine sCall c29 (skip_ok s 0 W2 (Nat.zero_le _) (by omega)) ?_
  rintro _ W3 ⟨rfl, hx3⟩
  have hsk := skipB_drop s 0
  rw [List.drop_zero] at hsk ⊢
  have hbl := bls_le s
  rw [show 0 + bls s = bls s by omega] at hsk ⊢
  generalize bls s = k0 at hsk hbl ⊢
  have hbz3 := hbz2.to hx3
  have hL3 := hL2.to hx3
  have hx03 := hx02.trans hx3
  have hbx3 := hL3.bx
  unfold rlC at hbx3
  refine rn ?_
  refine sSf tb (fun W4 hb4 hw4 => ?_)
  have hL4 : Ln W4 xb s k0 false 0 0 (.slice none 0 0) (.slice none 0 0) := ⟨hb4, hbl, by omega, (by intro h; cases h)⟩
  have hbz4 := hbz3.wr hw4 (by omega)
  have hx4 := hx03.ofKp hw4.kp hwx
  clear hL2 hbx2 hbz2 hx02 hL3 hbx3 hbz3 hx3 hx03 hb4 hw4
  have hbx4 := hL4.bx
  unfold rlC at hbx4
  refine rn ?_
  refine sCall c70 (word_ok s k0 true W4 hbl (by omega)) ?_
  rintro _ W5 ⟨rfl, hW5⟩
  obtain rfl : W4 = W5 := hW5.symm
  have hnle := nameN_le (s.drop k0) true true
  rw [List.length_drop] at hnle
  have hnm : nameP true (s.drop k0) = if nameN true true (s.drop k0) = 0 then none else some ((s.drop k0).take (nameN true true (s.drop k0)), s.drop (k0 + nameN true true (s.drop k0))) := by
    unfold nameP; rw [List.drop_drop]
  generalize nameN true true (s.drop k0) = n at hnle hnm ⊢
  have hk1l : k0 + n ≤ s.length := by omega
  have hsam : sampleP Num.intP s = match nameP true (s.drop k0) with
      | none => none
      | some (nm, l1) =>
        if (skipB l1).head? = some 123 then match labsP (skipB l1) with
          | none => none
          | some (ls, l2) => match numsP Num.intP (skipB l2) with
            | none => none
            | some (v, t) => some ⟨nm, ls, v, t⟩
        else if bls l1 = 0 then none else match numsP Num.intP (skipB l1) with
          | none => none
          | some (v, t) => some ⟨nm, [], v, t⟩ := by
    unfold sampleP
    rw [hsk]
    try rfl
  refine rn ?_
  refine sSf tb (fun W6 hb6 hw6 => ?_)
  have hL6 : Ln W6 xb s (k0 + n) false 0 0 (.slice none 0 0) (.slice none 0 0) := ⟨hb6, hk1l, by omega, (by intro h; cases h)⟩
  have hbz6 := hbz4.wr hw6 (by omega)
  have hx6 := hx4.ofKp hw6.kp hwx
  clear hL4 hbx4 hbz4 hx4 hb6 hw6
  have hbx6 := hL6.bx
  unfold rlC at hbx6
  refine rn ?_
  first | refine G.condD rfl (fun hc => ?_) (fun hc => ?_) | refine G.condN rfl (fun hc => ?_) (fun hc => ?_) | refine G.cond rfl (fun hc => ?_) (fun hc => ?_)
  · have hn0 : n = 0 := by omega
    rw [hnm, if_pos hn0] at hsam
    simp only at hsam
    refine rn ?_
    refine sSt tb (fun W9 hb9 hw9 => ?_) (vs := linZ) (hv := rfl) (h1 := linZ_one) (hb := hbz6)
    refine rn ?_
    refine G.retCTT rfl rfl (RV.agg tb hb9.cells) ?_ rfl rfl rfl rfl
    exact ⟨hx6.ofKp hw9.kp (by omega), .inr ⟨.inl hsam, k0, 8, by decide, rfl⟩⟩
  have hn0 : ¬ n = 0 := by intro h; apply hc; omega
  rw [hnm, if_neg hn0] at hsam
  simp only at hsam
  clear hc hnm hsk
  refine rn ?_
  refine GL.cons (Step.sliceS tb k0 (k0 + n) rfl (Op1.of rfl (by first | exact fun _ => rfl | exact fun h => h | exact fun h => bL h | exact fun h => bL (bL h) | exact fun h => bL (bL (bL h)))) (Op1.of rfl (by first | exact fun _ => rfl | exact fun h => h | exact fun h => bL h | exact fun h => bL (bL h) | exact fun h => bL (bL (bL h)))) (Op1.of rfl (by first | exact fun _ => rfl | exact fun h => h | exact fun h => bL h | exact fun h => bL (bL h) | exact fun h => bL (bL (bL h)))) rfl (fun _ => ⟨rfl, rfl, by omega, by omega⟩) rfl ?_)
  rw [show k0 + n - k0 = n by omega]
  have hnml : ((s.drop k0).take n).length ≤ 3000 := by rw [List.length_take, List.length_drop]; omega
  generalize (s.drop k0).take n = nm at hsam hnml ⊢
  generalize k0 + n = k1 at hk1l hL6 hsam ⊢
  clear hbx6
  have hbx6 := hL6.bx
  unfold rlC at hbx6
  refine rn ?_
  refine sCall c29 (skip_ok s k1 W6 hk1l (by omega)) ?_
  rintro _ W7 ⟨rfl, hx7⟩
  have hsk := skipB_drop s k1
  rw [hsk] at hsam
  have hbl1 := bls_le (s.drop k1)
  rw [List.length_drop] at hbl1
  have hk2l : k1 + bls (s.drop k1) ≤ s.length := by omega
  obtain ⟨k2, hk2⟩ : ∃ k2, k2 = k1 + bls (s.drop k1) := ⟨_, rfl⟩
  have hb0 : bls (s.drop k1) = 0 ↔ (k2 : Int) = k1 := by omega
  rw [← hk2] at hsam hk2l ⊢
  generalize bls (s.drop k1) = b1 at hsam hb0
  clear hk2 hsk hbl1
  have hbz7 := hbz6.to hx7
  have hL7 := hL6.to hx7
  have hx07 := hx6.trans hx7
  have hbx7 := hL7.bx
  unfold rlC at hbx7
  refine rn ?_
  refine sSf tb (fun W8 hb8 hw8 => ?_)
  have hL8 : Ln W8 xb s k2 false 0 0 (.slice none 0 0) (.slice none 0 0) := ⟨hb8, hk2l, by omega, (by intro h; cases h)⟩
  have hbz8 := hbz7.wr hw8 (by omega)
  have hx8 := hx07.ofKp hw8.kp hwx
  clear hL6 hbx6 hbz6 hx6 hL7 hbx7 hbz7 hx07 hx7 hb8 hw8
  have hbx8 := hL8.bx
  unfold rlC at hbx8
  refine rn ?_
  refine sBs tb k2 ?_ (hj := fun hc => ⟨rfl, by have := of_decide_eq_true hc; omega⟩)
  refine rn ?_
  refine G.join (fun y : Int => [(0, none, S s), (2, none, ptr q), (5, none, ptr xb), (7, none, S nm), (8, none, .int .i64 y)]) (fun y W => ∃ k bd wh wy nv vv, Ln W xb s k bd wh wy nv vv ∧ Bx W q linZ ∧ Ext w W ∧ (bd = true → sampleP Num.intP s = none) ∧ (bd = false → ∃ ls, NV W (xb + 1) nv vv ls ∧ ls.length ≤ 999 ∧ (∀ x ∈ ls, x.1.length ≤ 3000 ∧ x.2.length ≤ 3000) ∧ sampleP Num.intP s = if (k : Int) = y then none else match numsP Num.intP (s.drop k) with
      | none => none
      | some (v, t) => some ⟨nm, ls, v, t⟩)) ?_ ?_
  · clear hsam hL8 hbz8 hx8 hbx8
    rintro y W ⟨k, bd, wh, wy, nv, vv, hL, hbz, hx, hbad, hgood⟩
    have hbx := hL.bx
    unfold rlC at hbx
    refine rn ?_
    cases bd
    · obtain ⟨ls, hN, hll, hlz, hsam⟩ := hgood rfl
      clear hbad hgood
      refine rn ?_
      have hlz2 : ∀ x ∈ (nameB, nm) :: ls, Lab.LabSz x := by
        intro x hx
        rcases List.mem_cons.1 hx with rfl | hx
        · exact ⟨by show nameB.length ≤ _; decide, by show nm.length ≤ _; omega⟩
        · have := hlz x hx
          exact ⟨by show x.1.length ≤ _; omega, by show x.2.length ≤ _; omega⟩
      refine sCall c101 (numbers_ok W xb s nm k y wh wy nv vv (xb + 1) ls hL hN (by omega) hll hlz2) ?_
      rintro _ W9 ⟨hk9, ⟨x, t, v, out, ⟨h1, h2, h3, h4⟩, rfl, ho⟩ | ⟨hno, a, e, he, rfl⟩⟩
      · have hbz9 := hbz.kp hk9 (by omega)
        have hx9 := hx.ofKp hk9 hwx
        have hone : v.oneCell' = true := ho.sli.one v (List.mem_singleton.2 rfl)
        rw [if_neg h1, h2] at hsam
        simp only at hsam
        refine rn ?_
        refine sSt tb (fun W10 hb10 hw10 => ?_) (vs := linC v x t) (hv := rfl) (h1 := linC_one hone) (hb := hbz9)
        have ho10 : Lab.LO W10 W.heap.size v out := ho.kp hw10.kp (by have := hbz.lt; omega)
        refine rn ?_
        refine G.retCTT rfl rfl (RV.agg tb hb10.cells) ?_ rfl rfl rfl rfl
        exact ⟨hx9.ofKp hw10.kp (by omega), .inl ⟨⟨nm, ls, x, t⟩, v, out, ⟨hsam, h3, h4⟩, rfl, ho10.mono (by have := hx.size; omega)⟩⟩
      · have hbz9 := hbz.kp hk9 (by omega)
        have hx9 := hx.ofKp hk9 hwx
        refine rn ?_
        refine sSt tb (fun W10 hb10 hw10 => ?_) (vs := linZ) (hv := rfl) (h1 := linZ_one) (hb := hbz9)
        refine rn ?_
        refine G.retCTT rfl rfl (RV.agg tb hb10.cells) ?_ rfl rfl rfl rfl
        refine ⟨hx9.ofKp hw10.kp (by omega), .inr ⟨?_, a, e, he, rfl⟩⟩
        by_cases hky : (k : Int) = y
        · rw [if_pos hky] at hsam
          exact .inl hsam
        rw [if_neg hky] at hsam
        cases hnu : numsP Num.intP (s.drop k) with
        | none => rw [hnu] at hsam; exact .inl hsam
        | some vt =>
          obtain ⟨v, t⟩ := vt
          rw [hnu] at hsam
          rcases hno with h | h | h | h
          · exact absurd h hky
          · rw [hnu] at h; cases h
          · exact .inr ⟨_, hsam, .inl h⟩
          · exact .inr ⟨_, hsam, .inr h⟩
    · have hno := hbad rfl
      have hwy := hL.hw rfl
      clear hbad hgood
      refine rn ?_
      have hbd := hL.bx.to (Ext.drew W)
      have hcd := hbz.to (Ext.drew W)
      refine G.regionM [(0, true), (1, true), (2, true), (3, true), (4, true), (5, true), (6, true), (7, true), (8, true), (9, false), (10, true), (11, true)] (fun w' => Bx w' xb (rlC s k true wh wy nv vv)) (by kernel_rfl) (by kernel_rfl) rfl mixed (hbd) rfl ?_
      refine rd ?_
      refine GM.read (fun w' hS => Step.build tb rfl rfl rfl rfl rfl rfl rfl rfl rfl ⟨rfl, rfl⟩) rfl rfl ?_
      refine rd ?_
      refine dLd tb (u := .int .i64 wh) ?_ (hc := fun w' hS _ => Bx.ci (i := 3) hS (by exact rfl))
      refine rd ?_
      refine dLd tb (u := .int .i64 wy) ?_ (hc := fun w' hS _ => Bx.ci (i := 4) hS (by exact rfl))
      refine rd ?_
      refine GM.eff (Step.store0 (vs := linZ) tb rfl (Op1.of rfl (by first | exact fun _ => rfl | exact fun h => h | exact fun h => bL h | exact fun h => bL (bL h) | exact fun h => bL (bL (bL h)))) (Op1.of rfl (by first | exact fun _ => rfl | exact fun h => h | exact fun h => bL h | exact fun h => bL (bL h) | exact fun h => bL (bL (bL h)))) rfl rfl rfl linZ_one hcd rfl ?_)
      intro W8 hb8 hw8
      refine ⟨hbd.wr hw8 (by omega), ?_⟩
      refine rd ?_
      refine GM.nil ?_
      refine rn ?_
      refine G.retCTT rfl rfl (RV.agg tb hb8.cells) ?_ rfl rfl rfl rfl
      exact ⟨(hx.trans (Ext.drew W)).ofKp hw8.kp (by omega), .inr ⟨.inl hno, wh, wy, hwy, rfl⟩⟩
  · refine G.cond rfl (fun hc => ?_) (fun hc => ?_)
    · have hh : (s.drop k2).head? = some 123 := by
        simp only [Bool.and_eq_true, decide_eq_true_eq] at hc
        rw [drop_at (by omega)]
        simp only [List.head?_cons, Option.some.injEq]
        rw [← UInt8.toNat_inj]
        show _ = 123
        omega
      rw [if_pos hh] at hsam
      refine rn ?_
      refine sCall c100 (labelsL_ok W8 xb s k2 0 0 hL8 hnl hh) ?_
      rintro _ W9 ⟨hk9, ⟨ls, k3, nv, vv, hlab, hL9, hN9⟩ | ⟨hlab, k3, wh', wy', nv, vv, hL9⟩⟩
      · have hbz9 := hbz8.kp hk9 (by omega)
        have hx9 := hx8.ofKp hk9 hwx
        have hfew := labsP_few hlab
        simp only [List.length_drop] at hfew
        have hN9 := hN9.mono (show xb + 1 ≤ W8.heap.size from hL8.bx.lt)
        rw [hlab] at hsam
        simp only at hsam
        have hsk3 := skipB_drop s k3
        rw [hsk3] at hsam
        have hbl3 := bls_le (s.drop k3)
        rw [List.length_drop] at hbl3
        have hk3l := hL9.hi
        have hk4l : k3 + bls (s.drop k3) ≤ s.length := by omega
        have hbx9 := hL9.bx
        unfold rlC at hbx9
        refine rn ?_
        refine sCall c29 (skip_ok s k3 W9 hL9.hi hL9.hs) ?_
        rintro _ W10 ⟨rfl, hx10⟩
        have hbz10 := hbz9.to hx10
        have hL10 := hL9.to hx10
        have hN10 := hN9.to hx10
        have hx010 := hx9.trans hx10
        have hbx10 := hL10.bx
        unfold rlC at hbx10
        clear hbx9 hL9 hN9 hbz9 hx9
        refine rn ?_
        refine sSf tb (fun W11 hb11 hw11 => ?_)
        have hL11 : Ln W11 xb s (k3 + bls (s.drop k3)) false 0 0 nv vv := ⟨hb11, hk4l, by omega, (by intro h; cases h)⟩
        have hbz11 := hbz10.wr hw11 (by omega)
        have hN11 := hN10.kp hw11.kp (by omega)
        have hx11 := hx010.ofKp hw11.kp hwx
        refine rn ?_
        refine G.met (-1 : Int) (by repeat (first | exact Sub.nil _ | refine Sub.cons rfl ?_)) ⟨_, false, 0, 0, nv, vv, hL11, hbz11, hx11, (by intro h; cases h), fun _ => ⟨ls, hN11, by omega, fun x hx => by have := hfew.2 x hx; omega, ?_⟩⟩
        rw [hsam, if_neg (by omega)]
        try rfl
      · have hbz9 := hbz8.kp hk9 (by omega)
        have hx9 := hx8.ofKp hk9 hwx
        have hbx9 := hL9.bx
        unfold rlC at hbx9
        rw [hlab] at hsam
        simp only at hsam
        refine rn ?_
        exact G.met (-1 : Int) (by repeat (first | exact Sub.nil _ | refine Sub.cons rfl ?_)) ⟨_, true, wh', wy', nv, vv, hL9, hbz9, hx9, fun _ => hsam, (by intro h; cases h)⟩
    · have hh : ¬ (s.drop k2).head? = some 123 := by
        intro hh
        have hlt := head_lt hh
        rw [drop_at hlt] at hh
        have h5 : s.getD k2 0 = 123 := by simpa using hh
        rw [h5] at hc
        rw [decide_eq_true (show (k2 : Int) < s.length by omega)] at hc
        simp at hc
      rw [if_neg hh] at hsam
      refine rn ?_
      refine G.met (k1 : Int) (by repeat (first | exact Sub.nil _ | refine Sub.cons rfl ?_)) ⟨k2, false, 0, 0, _, _, hL8, hbz8, hx8, (by intro h; cases h), fun _ => ⟨[], NV.nil _ _, by simp, by simp, ?_⟩⟩
      rw [hsam]
      by_cases hb : b1 = 0
      · rw [if_pos hb, if_pos (hb0.1 hb)]
      · rw [if_neg hb, if_neg (fun h => hb (hb0.2 h))]
        try rfl
end Go.Proofs.YtcngoccnfmhhnaaGreatDoor
end
section
open Go Go.Vg Go.RowKit Go.Proofs Go.Proofs.YtcngoccnfmhhnaaGreatDoor
namespace Go.Proofs.YtcngoccnfmhhnaaGreatDoor
open Go.Ex

theorem nlI_no {s : List UInt8} (h : ∀ k : Nat, s[k]? ≠ some 10) : ¬ 0 ≤ nlI s := by
  intro h0
  obtain ⟨k, hk⟩ := Int.eq_ofNat_of_zero_le h0
  exact h k (Lib.indexByte_some hk).1
theorem ROk.line {s : List UInt8} {L : LineS} {out : List Lab.Lab} (hn : ∀ k : Nat, s[k]? ≠ some 10) (h : ROk s L out) : lineR s = some (L, out) := by
  obtain ⟨h1, h2, h3⟩ := h
  unfold lineR
  rw [if_neg (nlI_no hn), h1]
  simp only
  rw [any_no h2, h3]
  rfl
theorem RNo.line {s : List UInt8} (h : RNo s) : lineR s = none := by
  unfold lineR
  split
  · rfl
  rcases h with h | ⟨L, hL, h⟩
  · rw [h]
  · rw [hL]
    simp only
    rcases h with ⟨x, hx, hn⟩ | h
    · rw [show L.labs.any (fun x => decide (x.1 = nameB)) = true from List.any_eq_true.2 ⟨x, hx, decide_eq_true hn⟩]
      rfl
    · rw [if_neg h]
      split <;> rfl
set_option maxHeartbeats 4000000 in
theorem rreadLine_ok (w : World) (s : List UInt8) (hs : s.length ≤ 3000) (hnl : ∀ k : Nat, s[k]? ≠ some 10) :
    Ret Tryz.prog 30 ⟨[S s]⟩ w (WholeS (fun L out => lineR s = some (L, out)) (lineR s = none) w) := by
  refine ret_of_G Tryz.func30 rfl Tryz.ntmps30 rfl ?_
  simp only [argEnv]
  refine rn ?_
  refine sAl tb (fun W1 hb1 hs1 hx1 => ?_)
  obtain ⟨q, hq⟩ : ∃ q, q = w.heap.size := ⟨_, rfl⟩
  rw [← hq] at hb1 hs1 ⊢
  have hb1 : Bx W1 q linZ := hb1
  refine rn ?_
  refine (G.loop (fun k : Nat => [(0, none, S s), (2, none, ptr q), (5, none, .int .i64 k)]) (fun k W => W1 = W ∧ k ≤ s.length) (fun k => s.length - k) 0 (by repeat (first | exact Sub.nil _ | refine Sub.cons rfl ?_)) ⟨rfl, Nat.zero_le _⟩ ?_)
  rintro k _ ⟨rfl, hk⟩
  refine rn ?_
  first | refine G.condD rfl (fun hc => ?_) (fun hc => ?_) | refine G.condN rfl (fun hc => ?_) (fun hc => ?_) | refine G.cond rfl (fun hc => ?_) (fun hc => ?_)
  · have hlt : k < s.length := by omega
    refine rn ?_
    refine sBs tb k ?_
    refine rn ?_
    first | refine G.condD rfl (fun hc => ?_) (fun hc => ?_) | refine G.condN rfl (fun hc => ?_) (fun hc => ?_) | refine G.cond rfl (fun hc => ?_) (fun hc => ?_)
    · exfalso
      apply hnl k
      rw [List.getElem?_eq_getElem hlt]
      congr 1
      rw [← UInt8.toNat_inj]
      have h2 : s.getD k 0 = s[k] := by simp [List.getD, hlt]
      rw [h2] at hc
      show _ = 10
      omega
    refine rn ?_
    refine sAd tb ?_
    refine rn ?_
    exact G.lp (x := k) (k + 1) (by repeat (first | exact Sub.nil _ | refine Sub.cons rfl ?_)) ⟨rfl, hlt⟩ (by omega)
  · refine rn ?_
    refine sCall c68 (rread_ok W1 s hs hnl) ?_
    rintro _ W3 ⟨hx3, hr⟩
    have hx03 := hx1.trans hx3
    have hb3 := hb1.to hx3
    rcases hr with ⟨L, v, out, hok, rfl, ho⟩ | ⟨hno, a, e, he, rfl⟩
    · have hone : v.oneCell' = true := ho.sli.one v (List.mem_singleton.2 rfl)
      refine rn ?_
      refine sSt tb (fun W10 hb10 hw10 => ?_) (vs := linC v L.val L.time) (hv := rfl) (h1 := linC_one hone) (hb := hb3)
      have ho10 : Lab.LO W10 W1.heap.size v out := ho.kp hw10.kp (by have := hb1.lt; omega)
      refine rn ?_
      refine G.retCTT rfl rfl (RV.agg tb hb10.cells) ?_ rfl rfl rfl rfl
      exact ⟨hx03.ofKp hw10.kp (by omega), .inl ⟨L, v, out, hok.line hnl, rfl, ho10.mono (by have := hx1.size; omega)⟩⟩
    · refine rn ?_
      refine sSt tb (fun W10 hb10 hw10 => ?_) (vs := linZ) (hv := rfl) (h1 := linZ_one) (hb := hb3)
      refine rn ?_
      refine G.retCTT rfl rfl (RV.agg tb hb10.cells) ?_ rfl rfl rfl rfl
      exact ⟨hx03.ofKp hw10.kp (by omega), .inr ⟨hno.line, a, e, he, rfl⟩⟩
end Go.Proofs.YtcngoccnfmhhnaaGreatDoor
end
section
open Go Go.Vg Go.RowKit Go.Proofs Go.Proofs.YtcngoccnfmhhnaaGreatDoor
namespace Go.Proofs.YtcngoccnfmhhnaaGreatDoor
open Go.Ex

section
theorem u8N_1 {n b0 b1 b2 b3 : Nat} (h0 : 128 ≤ b0) (h1 : b1 < 128) : Lab.u8N n b0 b1 b2 b3 = 0 := by
  have h64 : ¬ b1 / 64 = 2 := by omega
  unfold Lab.u8N
  simp only [h64, false_and, and_false, if_false]
  rw [if_neg (by omega)]
  repeat' split
  all_goals rfl
theorem u8N_2 {n m b0 b1 b2 b3 c2 c3 : Nat} (h0 : 128 ≤ b0) (hn : 1 < n) (hm : 1 < m) (h2 : b2 < 128) (g2 : c2 < 128) : Lab.u8N n b0 b1 b2 b3 = Lab.u8N m b0 b1 c2 c3 ∧ (Lab.u8N n b0 b1 b2 b3 = 0 ∨ Lab.u8N n b0 b1 b2 b3 = 2) := by
  have h64 : ¬ b2 / 64 = 2 := by omega
  have g64 : ¬ c2 / 64 = 2 := by omega
  unfold Lab.u8N
  simp only [h64, g64, false_and, and_false, if_false, hn, hm, true_and]
  rw [if_neg (by omega)]
  repeat' split
  all_goals first | exact .inl rfl | exact .inr rfl
theorem u8N_3 {n m b0 b1 b2 b3 c3 : Nat} (h0 : 128 ≤ b0) (hn : 2 < n) (hm : 2 < m) (h3 : b3 < 128) (g3 : c3 < 128) : Lab.u8N n b0 b1 b2 b3 = Lab.u8N m b0 b1 b2 c3 ∧ (Lab.u8N n b0 b1 b2 b3 = 0 ∨ Lab.u8N n b0 b1 b2 b3 = 2 ∨ Lab.u8N n b0 b1 b2 b3 = 3) := by
  have h64 : ¬ b3 / 64 = 2 := by omega
  have g64 : ¬ c3 / 64 = 2 := by omega
  unfold Lab.u8N
  simp only [h64, g64, false_and, and_false, if_false, hn, hm, true_and, show 1 < n by omega, show 1 < m by omega]
  rw [if_neg (by omega)]
  repeat' split
  all_goals first | exact .inl rfl | exact .inr (.inl rfl) | exact .inr (.inr rfl)
theorem u8N_4 {n m b0 b1 b2 b3 : Nat} (h0 : 128 ≤ b0) (hn : 3 < n) (hm : 3 < m) : Lab.u8N n b0 b1 b2 b3 = Lab.u8N m b0 b1 b2 b3 ∧ (Lab.u8N n b0 b1 b2 b3 = 0 ∨ Lab.u8N n b0 b1 b2 b3 = 2 ∨ Lab.u8N n b0 b1 b2 b3 = 3 ∨ Lab.u8N n b0 b1 b2 b3 = 4) := by
  unfold Lab.u8N
  simp only [hn, hm, true_and, show 1 < n by omega, show 1 < m by omega, show 2 < n by omega, show 2 < m by omega]
  rw [if_neg (by omega)]
  repeat' split
  all_goals first | exact .inl rfl | exact .inr (.inl rfl) | exact .inr (.inr (.inl rfl)) | exact .inr (.inr (.inr rfl))
/-- how long the first character is; 0: none -/
def uLen (l : List UInt8) : Nat := Lab.u8N l.length (l.getD 0 0).toNat (l.getD 1 0).toNat (l.getD 2 0).toNat (l.getD 3 0).toNat
theorem validD_u {l : List UInt8} (h : l ≠ []) : Lib.validD l = (!decide (uLen l = 0) && Lib.validD (l.drop (uLen l))) := by
  rw [Lib.validD_step _ h, Lib.decodeL_N]
  unfold uLen
  rcases Lab.u8N_decode l.length (l.getD 0 0).toNat (l.getD 1 0).toNat (l.getD 2 0).toNat (l.getD 3 0).toNat with ⟨h1, h2⟩ | ⟨h1, h2, h3⟩
  · rw [h1, h2]; simp
  · rw [if_neg h3, h2, decide_eq_false h1]; simp
end
theorem unesc_hi {c : UInt8} (l : List UInt8) (h : 128 ≤ c.toNat) : unescP (c :: l) = c :: unescP l := by
  cases l with
  | nil => rfl
  | cons d l =>
    simp only [unescP]
    rw [if_neg]
    rintro ⟨rfl, _⟩
    simp at h
theorem unesc_lo {l : List UInt8} (h : (l.getD 0 0).toNat < 128) : ((unescP l).getD 0 0).toNat < 128 := by
  cases l with
  | nil => exact h
  | cons c l =>
    cases l with
    | nil => exact h
    | cons d l =>
      simp only [unescP]
      split
      · rename_i hc
        rcases hc.2 with rfl | rfl <;> simp
      · simpa using h
theorem hi_cons {l : List UInt8} (h : ¬ (l.getD 0 0).toNat < 128) : ∃ c t, l = c :: t ∧ 128 ≤ c.toNat := by
  cases l with
  | nil => simp at h
  | cons c t => exact ⟨c, t, rfl, by simpa using h⟩
theorem uLen_unesc (c : UInt8) (l : List UInt8) (hc : 128 ≤ c.toNat) : uLen (c :: unescP l) = uLen (c :: l) ∧ (uLen (c :: l) ≠ 0 → 1 ≤ uLen (c :: l) ∧ (c :: unescP l).drop (uLen (c :: l)) = unescP ((c :: l).drop (uLen (c :: l)))) := by
  unfold uLen
  simp only [List.getD_cons_zero, List.getD_cons_succ, List.length_cons]
  by_cases h1 : (l.getD 0 0).toNat < 128
  · have := unesc_lo h1
    rw [u8N_1 hc this, u8N_1 hc h1]
    exact ⟨rfl, fun h => absurd rfl h⟩
  obtain ⟨d, l, rfl, hd⟩ := hi_cons h1
  clear h1
  rw [unesc_hi _ hd]
  simp only [List.getD_cons_zero, List.getD_cons_succ, List.length_cons]
  by_cases h2 : (l.getD 0 0).toNat < 128
  · have := unesc_lo h2
    obtain ⟨e1, e2⟩ := u8N_2 (n := l.length + 1 + 1) (m := (unescP l).length + 1 + 1) (b1 := d.toNat) (b3 := (l.getD 1 0).toNat) (c3 := ((unescP l).getD 1 0).toNat) hc (by omega) (by omega) h2 this
    rw [← e1]
    refine ⟨rfl, fun h => ?_⟩
    rcases e2 with e2 | e2
    · exact absurd e2 h
    · rw [e2]; exact ⟨by omega, rfl⟩
  obtain ⟨e, l, rfl, he⟩ := hi_cons h2
  clear h2
  rw [unesc_hi _ he]
  simp only [List.getD_cons_zero, List.getD_cons_succ, List.length_cons]
  by_cases h3 : (l.getD 0 0).toNat < 128
  · have := unesc_lo h3
    obtain ⟨e1, e2⟩ := u8N_3 (n := l.length + 1 + 1 + 1) (m := (unescP l).length + 1 + 1 + 1) (b1 := d.toNat) (b2 := e.toNat) hc (by omega) (by omega) h3 this
    rw [← e1]
    refine ⟨rfl, fun h => ?_⟩
    rcases e2 with e2 | e2 | e2
    · exact absurd e2 h
    · rw [e2]; exact ⟨by omega, (unesc_hi _ he).symm⟩
    · rw [e2]; exact ⟨by omega, rfl⟩
  obtain ⟨f, l, rfl, hf⟩ := hi_cons h3
  clear h3
  rw [unesc_hi _ hf]
  simp only [List.getD_cons_zero, List.getD_cons_succ, List.length_cons]
  obtain ⟨e1, e2⟩ := u8N_4 (n := l.length + 1 + 1 + 1 + 1) (m := (unescP l).length + 1 + 1 + 1 + 1) (b1 := d.toNat) (b2 := e.toNat) (b3 := f.toNat) hc (by omega) (by omega)
  rw [← e1]
  refine ⟨rfl, fun h => ?_⟩
  rcases e2 with e2 | e2 | e2 | e2
  · exact absurd e2 h
  · rw [e2]
    refine ⟨by omega, ?_⟩
    show e :: f :: unescP l = unescP (e :: f :: l)
    rw [unesc_hi _ he, unesc_hi _ hf]
  · rw [e2]; exact ⟨by omega, (unesc_hi _ hf).symm⟩
  · rw [e2]; exact ⟨by omega, rfl⟩
theorem validD_lo {c : UInt8} (l : List UInt8) (hc : c.toNat < 128) : Lib.validD (c :: l) = Lib.validD l := by
  rw [validD_u (by simp)]
  have : uLen (c :: l) = 1 := by
    unfold uLen Lab.u8N
    rw [if_pos (by simpa using hc)]
  rw [this]; simp
theorem validD_unesc (n : Nat) : ∀ l : List UInt8, l.length ≤ n → Lib.validD (unescP l) = Lib.validD l := by
  induction n with
  | zero =>
    intro l h
    rw [List.eq_nil_of_length_eq_zero (Nat.le_zero.1 h)]
    simp only [unescP]
  | succ n ih =>
    intro l h
    cases l with
    | nil => simp only [unescP]
    | cons c l =>
      have hl : l.length ≤ n := by simpa using h
      by_cases hc : c.toNat < 128
      · rw [validD_lo l hc]
        cases l with
        | nil => exact validD_lo [] hc
        | cons d l =>
          simp only [unescP]
          split
          · rename_i hh
            rw [validD_lo l (by rcases hh.2 with rfl | rfl <;> decide), validD_lo _ (by rcases hh.2 with rfl | rfl <;> decide)]
            exact ih l (by simp at hl; omega)
          · rw [validD_lo _ hc]
            exact ih (d :: l) hl
      · have hc : 128 ≤ c.toNat := by omega
        obtain ⟨h1, h2⟩ := uLen_unesc c l hc
        rw [unesc_hi _ hc, validD_u (by simp), h1, validD_u (l := c :: l) (by simp)]
        by_cases h0 : uLen (c :: l) = 0
        · rw [decide_eq_true h0, Bool.not_true, Bool.false_and, Bool.false_and]
        · obtain ⟨h3, h4⟩ := h2 h0
          rw [h4]
          rw [ih ((c :: l).drop (uLen (c :: l))) (by rw [List.length_drop, List.length_cons]; omega)]
theorem validD_unescP (l : List UInt8) : Lib.validD (unescP l) = Lib.validD l := validD_unesc l.length l (Nat.le_refl _)
end Go.Proofs.YtcngoccnfmhhnaaGreatDoor
end
section
open Go Go.Vg Go.RowKit Go.Proofs Go.Proofs.YtcngoccnfmhhnaaGreatDoor
namespace Go.Proofs.YtcngoccnfmhhnaaGreatDoor
open Go.Ex

theorem piece_ok (s : List UInt8) (i : Nat) (w : World) (hi : i ≤ s.length) (hs : s.length ≤ 1000000000) : Ret Tryz.prog 69 ⟨[S s, .int .i64 i]⟩ w fun r w' => r = .tuple ⟨[S ((s.drop (i + bls (s.drop i))).take (tokN (s.drop (i + bls (s.drop i))))), .int .i64 ((i + bls (s.drop i) + tokN (s.drop (i + bls (s.drop i))) : Nat) : Int), .bool (!decide (bls (s.drop i) = 0))]⟩ ∧ Ext w w' := by
  refine ret_of_G Tryz.func69 rfl Tryz.ntmps69 rfl ?_
  simp only [argEnv]
  refine rn ?_
  refine sCall c29 (skip_ok s i w hi hs) ?_
  rintro _ W1 ⟨rfl, hx1⟩
  have hbl := bls_le (s.drop i)
  rw [List.length_drop] at hbl
  generalize bls (s.drop i) = n at hbl ⊢
  have hk : i + n ≤ s.length := by omega
  refine rn ?_
  refine sCall c102 (rtoken_ok s (i + n) W1 hk hs) ?_
  rintro _ W2 ⟨rfl, hx2⟩
  have htl := tokN_le (s.drop (i + n))
  rw [List.length_drop] at htl
  generalize tokN (s.drop (i + n)) = m at htl ⊢
  refine rn ?_
  refine GL.cons (Step.sliceS tb (i + n) (i + n + m) rfl (Op1.of rfl (by first | exact fun _ => rfl | exact fun h => h | exact fun h => bL h | exact fun h => bL (bL h) | exact fun h => bL (bL (bL h)))) (Op1.of rfl (by first | exact fun _ => rfl | exact fun h => h | exact fun h => bL h | exact fun h => bL (bL h) | exact fun h => bL (bL (bL h)))) (Op1.of rfl (by first | exact fun _ => rfl | exact fun h => h | exact fun h => bL h | exact fun h => bL (bL h) | exact fun h => bL (bL (bL h)))) rfl (fun _ => ⟨rfl, rfl, by omega, by omega⟩) rfl ?_)
  rw [show i + n + m - (i + n) = m by omega]
  refine rn ?_
  refine G.ret3 rfl rfl rfl rfl rfl rfl ?_
  refine ⟨?_, hx1.trans hx2⟩
  congr 3
  rw [List.cons.injEq, List.cons.injEq]
  refine ⟨rfl, ?_, rfl⟩
  congr 1
  rw [Bool.eq_iff_iff]
  simp only [decide_eq_true_eq, Bool.not_eq_true', decide_eq_false_iff_not]
  omega
/-- what says gives -/
def saidV : Option Said → Value
  | none => .tuple ⟨[S [], S [], S [], .bool false]⟩
  | some x => .tuple ⟨[S x.name, S x.word, S x.rest, .bool true]⟩
theorem met_nil : metB [] = false := by decide
set_option maxHeartbeats 2000000 in
theorem says_ok (s : List UInt8) (w : World) (hl : bls s < s.length) (hs : s.length ≤ 1000000) : Ret Tryz.prog 31 ⟨[S s]⟩ w fun r w' => r = saidV (saysP metB (s.drop (bls s + 1))) ∧ Ext w w' := by
  refine ret_of_G Tryz.func31 rfl Tryz.ntmps31 rfl ?_
  simp only [argEnv]
  refine rn ?_
  refine sCall c29 (skip_ok s 0 w (Nat.zero_le _) (by omega)) ?_
  rintro _ W1 ⟨rfl, hx1⟩
  rw [List.drop_zero, Nat.zero_add]
  refine rn ?_
  refine sAd tb (r := ((bls s + 1 : Nat) : Int)) ?_
  refine rn ?_
  have hle : bls s + 1 ≤ s.length := hl
  generalize bls s + 1 = i at hle ⊢
  refine sCall c69 (piece_ok s i W1 hle (by omega)) ?_
  rintro _ W2 ⟨rfl, hx2⟩
  have hx02 := hx1.trans hx2
  have hsp : saysP metB (s.drop i) = if bls (s.drop i) = 0 then none else match tokP (s.drop (i + bls (s.drop i))) with
      | none => none
      | some (wd, l1) => if wd ≠ helpW ∧ wd ≠ typeW then none else if bls l1 = 0 then none else match nameP true (skipB l1) with
        | none => none
        | some (nm, l2) => if bls l2 = 0 ∧ l2 ≠ [] then none else if metB nm then some ⟨wd, nm, skipB l2⟩ else none := by
    unfold saysP
    rw [skipB_drop]
    try rfl
  generalize saysP metB (s.drop i) = R at hsp ⊢
  have hbl := bls_le (s.drop i)
  rw [List.length_drop] at hbl
  generalize bls (s.drop i) = n at hbl hsp ⊢
  have htd := tokP_drop s (i + n)
  rw [htd] at hsp
  clear htd
  have htl := tokN_le (s.drop (i + n))
  rw [List.length_drop] at htl
  generalize tokN (s.drop (i + n)) = m at hsp htl ⊢
  have hel : i + n + m ≤ s.length := by omega
  have hw0 : m = 0 → (s.drop (i + n)).take m = [] := by intro h; rw [h]; rfl
  generalize (s.drop (i + n)).take m = wd at hsp hw0 ⊢
  generalize i + n + m = e at hsp hel ⊢
  refine rn ?_
  refine G.cond rfl (fun hc => ?_) (fun hc => ?_)
  · refine rn ?_
    refine G.ret4 rfl rfl rfl rfl rfl rfl rfl ?_
    refine ⟨?_, hx02⟩
    have hR : R = none := by
      rw [hsp]
      by_cases hn : n = 0
      · rw [if_pos hn]
      rw [if_neg hn]
      by_cases hm : m = 0
      · rw [if_pos hm]
      rw [if_neg hm]
      simp only
      rw [if_pos]
      simpa [hn, helpW, typeW] using hc
    rw [hR]; rfl
  have hc' : ¬ n = 0 ∧ ¬ (wd ≠ helpW ∧ wd ≠ typeW) := by
    constructor
    · intro h; rw [h] at hc; simp at hc
    · rintro ⟨h1, h2⟩
      unfold helpW at h1
      unfold typeW at h2
      simp [h1, h2] at hc
  obtain ⟨hn, hwd⟩ := hc'
  have hm : ¬ m = 0 := by
    intro h
    rw [hw0 h] at hwd
    exact hwd ⟨by decide, by decide⟩
  rw [if_neg hn, if_neg hm] at hsp
  simp only at hsp
  rw [if_neg hwd] at hsp
  clear hc hw0 hm hn
  refine rn ?_
  refine sCall c29 (skip_ok s e W2 hel (by omega)) ?_
  rintro _ W3 ⟨rfl, hx3⟩
  have hx03 := hx02.trans hx3
  rw [skipB_drop s e] at hsp
  have hbl2 := bls_le (s.drop e)
  rw [List.length_drop] at hbl2
  generalize bls (s.drop e) = n2 at hbl2 hsp ⊢
  have hk2 : e + n2 ≤ s.length := by omega
  refine rn ?_
  refine sCall c70 (word_ok s (e + n2) true W3 hk2 (by omega)) ?_
  rintro _ W4 ⟨rfl, hW4⟩
  obtain rfl : W3 = W4 := hW4.symm
  have hnle := nameN_le (s.drop (e + n2)) true true
  rw [List.length_drop] at hnle
  have hnm : nameP true (s.drop (e + n2)) = if nameN true true (s.drop (e + n2)) = 0 then none else some ((s.drop (e + n2)).take (nameN true true (s.drop (e + n2))), s.drop (e + n2 + nameN true true (s.drop (e + n2)))) := by
    unfold nameP; rw [List.drop_drop]
  rw [hnm] at hsp
  generalize nameN true true (s.drop (e + n2)) = q at hnle hsp ⊢
  clear hnm
  have hk3 : e + n2 + q ≤ s.length := by omega
  refine rn ?_
  refine GL.cons (Step.sliceS tb (e + n2) (e + n2 + q) rfl (Op1.of rfl (by first | exact fun _ => rfl | exact fun h => h | exact fun h => bL h | exact fun h => bL (bL h) | exact fun h => bL (bL (bL h)))) (Op1.of rfl (by first | exact fun _ => rfl | exact fun h => h | exact fun h => bL h | exact fun h => bL (bL h) | exact fun h => bL (bL (bL h)))) (Op1.of rfl (by first | exact fun _ => rfl | exact fun h => h | exact fun h => bL h | exact fun h => bL (bL h) | exact fun h => bL (bL (bL h)))) rfl (fun _ => ⟨rfl, rfl, by omega, by omega⟩) rfl ?_)
  rw [show e + n2 + q - (e + n2) = q by omega]
  have hnml : ((s.drop (e + n2)).take q).length ≤ 1000000 := by rw [List.length_take, List.length_drop]; omega
  have hnm0 : q = 0 → (s.drop (e + n2)).take q = [] := by intro h; rw [h]; rfl
  obtain ⟨nm, hnme⟩ : ∃ nm, nm = (s.drop (e + n2)).take q := ⟨_, rfl⟩
  rw [← hnme] at hsp hnml hnm0 ⊢
  refine rn ?_
  refine sCallx c71 (fun hc => Lab.refMetric_ok nm W3 (by omega)) ?_
  intro W5 hx5
  have hx05 := hx03.trans hx5
  refine rn ?_
  refine sBs tb (e + n2 + q) ?_ (hj := fun hc => ⟨rfl, by simp [cv] at hc; omega⟩)
  refine rn ?_
  refine sCallx c66 (fun hc => rblank_ok _ W5) ?_
  intro W6 hx6
  have hx06 := hx05.trans hx6
  refine rn ?_
  have hk3e : (bls (s.drop (e + n2 + q)) = 0 ∧ s.drop (e + n2 + q) ≠ []) ↔ (decide (((e + n2 + q : Nat) : Int) < s.length) && !blB (s.getD (e + n2 + q) 0)) = true := by
    by_cases hlt : e + n2 + q < s.length
    · rw [drop_at hlt, decide_eq_true (show ((e + n2 + q : Nat) : Int) < s.length by omega)]
      simp only [bls]
      cases blB (s.getD (e + n2 + q) 0) <;> simp
    · rw [drop_no hlt, decide_eq_false (show ¬ ((e + n2 + q : Nat) : Int) < s.length by omega)]
      simp
  refine G.cond rfl (fun hc => ?_) (fun hc => ?_)
  · refine rn ?_
    refine G.ret4 rfl rfl rfl rfl rfl rfl rfl ?_
    refine ⟨?_, hx06⟩
    have hR : R = none := by
      rw [hsp]
      by_cases hn2 : n2 = 0
      · rw [if_pos hn2]
      rw [if_neg hn2]
      by_cases hq : q = 0
      · rw [if_pos hq]
      rw [if_neg hq]
      simp only
      by_cases hb : bls (s.drop (e + n2 + q)) = 0 ∧ s.drop (e + n2 + q) ≠ []
      · rw [if_pos hb]
      rw [if_neg hb, if_neg]
      intro hm
      rw [decide_eq_false (show ¬ ((e + n2 : Nat) : Int) = e by omega), show Lab.namedB true nm = true from hm] at hc
      rw [Bool.eq_false_iff.2 (fun h => hb (hk3e.2 h))] at hc
      simp at hc
    rw [hR]; rfl
  have hn2 : ¬ n2 = 0 := by
    intro h; rw [decide_eq_true (show ((e + n2 : Nat) : Int) = e by omega)] at hc; simp at hc
  have hm : metB nm = true := by
    show Lab.namedB true nm = true
    cases hh : Lab.namedB true nm
    · rw [hh] at hc; simp at hc
    · rfl
  have hq : ¬ q = 0 := by
    intro h; rw [hnm0 h, met_nil] at hm; cases hm
  have hb : ¬ (bls (s.drop (e + n2 + q)) = 0 ∧ s.drop (e + n2 + q) ≠ []) := by
    intro h
    rw [hk3e.1 h] at hc
    simp at hc
  rw [if_neg hn2, if_neg hq] at hsp
  simp only at hsp
  rw [if_neg hb, if_pos hm, skipB_drop] at hsp
  clear hc hk3e hb hq hm hn2
  refine rn ?_
  refine G.regionM [(0, true), (1, true), (2, true), (3, true), (4, true), (5, true), (6, true), (7, true), (8, false), (9, true), (10, true), (11, true), (12, true), (13, true)] (Ext W6) (by kernel_rfl) (by kernel_rfl) rfl mixed (Ext.drew W6) rfl ?_
  refine rd ?_
  refine GM.read (fun w' hS => Step.sliceS tb (e + n2) (e + n2 + q) rfl (Op1.of rfl (by first | exact fun _ => rfl | exact fun h => h | exact fun h => bL h | exact fun h => bL (bL h) | exact fun h => bL (bL (bL h)))) (Op1.of rfl (by first | exact fun _ => rfl | exact fun h => h | exact fun h => bL h | exact fun h => bL (bL h) | exact fun h => bL (bL (bL h)))) (Op1.of rfl (by first | exact fun _ => rfl | exact fun h => h | exact fun h => bL h | exact fun h => bL (bL h) | exact fun h => bL (bL (bL h)))) rfl (fun _ => ⟨rfl, rfl, by omega, by omega⟩) rfl ⟨rfl, rfl⟩) rfl rfl ?_
  rw [show e + n2 + q - (e + n2) = q by omega, ← hnme]
  refine rd ?_
  refine GM.eff (Step.callX rfl rfl (by repeat (first | exact OpL.nil | refine OpL.cons (Op1.of rfl (by first | exact fun _ => rfl | exact fun h => h | exact fun h => bL h | exact fun h => bL (bL h) | exact fun h => bL (bL (bL h)))) ?_)) c29 rfl (fun hc => skip_ok s (e + n2 + q) _ hk3 (by omega)) ?_)
  intro W7 hx7
  have hx7 := (Ext.drew W6).trans hx7
  refine ⟨hx7, ?_⟩
  have hbl3 := bls_le (s.drop (e + n2 + q))
  rw [List.length_drop] at hbl3
  refine rd ?_
  refine GM.read (fun w' hS => Step.sliceSl tb (e + n2 + q + bls (s.drop (e + n2 + q))) rfl (Op1.of rfl (by first | exact fun _ => rfl | exact fun h => h | exact fun h => bL h | exact fun h => bL (bL h) | exact fun h => bL (bL (bL h)))) (Op1.of rfl (by first | exact fun _ => rfl | exact fun h => h | exact fun h => bL h | exact fun h => bL (bL h) | exact fun h => bL (bL (bL h)))) rfl (fun _ => ⟨rfl, by omega⟩) rfl ⟨rfl, rfl⟩) rfl rfl ?_
  refine rd ?_
  refine GM.nil ?_
  refine rn ?_
  refine G.ret4 rfl rfl rfl rfl rfl rfl rfl ?_
  refine ⟨?_, hx06.trans hx7⟩
  rw [hsp]; rfl
end Go.Proofs.YtcngoccnfmhhnaaGreatDoor
end
section
open Go Go.Vg Go.RowKit Go.Proofs Go.Proofs.YtcngoccnfmhhnaaGreatDoor
namespace Go.Proofs.YtcngoccnfmhhnaaGreatDoor
open Go.Ex

set_option maxHeartbeats 2000000 in
theorem help_ok (s : List UInt8) (w : World) (hs : s.length ≤ 1000000) : Ret Tryz.prog 33 ⟨[S s]⟩ w fun r w' => r = S (unescP s) ∧ Ext w w' := by
  refine ret_of_G Tryz.func33 rfl Tryz.ntmps33 rfl ?_
  simp only [argEnv]
  refine rn ?_
  refine (G.loop (fun x : Nat × Value => [(0, none, S s), (3, none, x.2), (4, none, .int .i64 x.1)]) (fun x W => Ext w W ∧ x.1 ≤ s.length ∧ ∃ out, Owns W w.heap.size x.2 5 1 (bysC out) ∧ out.length ≤ x.1 ∧ unescP s = out ++ unescP (s.drop x.1)) (fun x => s.length - x.1) (0, .slice none 0 0) (by repeat (first | exact Sub.nil _ | refine Sub.cons rfl ?_)) ⟨Ext.refl _, Nat.zero_le _, [], Owns.nil _ _ _ _, Nat.le_refl _, by simp⟩ ?_)
  rintro ⟨i, u⟩ W ⟨hx, hi, out, ho, hol, he⟩
  simp only at hi ho hol he ⊢
  have hsz := hx.size
  refine rn ?_
  first | refine G.condD rfl (fun hc => ?_) (fun hc => ?_) | refine G.condN rfl (fun hc => ?_) (fun hc => ?_) | refine G.cond rfl (fun hc => ?_) (fun hc => ?_)
  · have hlt : i < s.length := by omega
    have hone := fun h => unesc_one hlt h
    have htwo := fun h1 h2 => unesc_two (s := s) (i := i) h1 h2
    refine rn ?_
    refine sBs tb i ?_
    refine rn ?_
    refine sAd tb ?_
    refine rn ?_
    refine sAd tb ?_
    refine rn ?_
    refine sBs tb (i + 1) ?_ (hj := fun hc => by simp [cv] at hc; exact ⟨by omega, by omega⟩)
    refine rn ?_
    refine sAd tb ?_
    refine rn ?_
    refine sBs tb (i + 1) ?_ (hj := fun hc => by simp [cv] at hc; exact ⟨by omega, by omega⟩)
    refine rn ?_
    refine G.cond rfl (fun hc => ?_) (fun hc => ?_)
    · simp only [Bool.and_eq_true, Bool.or_eq_true, decide_eq_true_eq] at hc
      have hlt1 : i + 1 < s.length := by omega
      have h2 := htwo hlt1 ⟨by rw [← UInt8.toNat_inj]; show _ = 92; omega, by
        rcases hc.2 with h | h
        · exact .inl (by rw [← UInt8.toNat_inj]; show _ = 92; omega)
        · exact .inr (by rw [← UInt8.toNat_inj]; show _ = 110; omega)⟩
      clear hone htwo hc
      refine rn ?_
      refine sAd tb ?_
      refine rn ?_
      refine sBs tb (i + 1) ?_
      refine rn ?_
      first | refine G.condD rfl (fun hc => ?_) (fun hc => ?_) | refine G.condN rfl (fun hc => ?_) (fun hc => ?_) | refine G.cond rfl (fun hc => ?_) (fun hc => ?_)
      · have h110 : s.getD (i + 1) 0 = 110 := by rw [← UInt8.toNat_inj]; show _ = 110; omega
        rw [if_pos h110] at h2
        refine rn ?_
        refine sBs' tb (bysC [10]) ?_ (hkl := bysC_k _)
        intro v6 W6 ho6 hs6 hx6
        refine sApb tb (ho.to hx6) ho6.sli (fun v7 W7 ho7 hg7 => ?_) (hl := by simp only [List.length_cons, List.length_nil]; omega) (hB := by have := hx6.size; omega)
        have hx7 : Ext w W7 := Below.trans (B := w.heap.size) (hx.trans hx6) hg7.bl
        refine rn ?_
        refine sAd tb ?_
        refine rn ?_
        exact G.lp (x := (i, u)) (i + 1 + 1, v7) (by repeat (first | exact Sub.nil _ | refine Sub.cons rfl ?_)) ⟨hx7, hlt1, out ++ [10], ho7, by simp only [List.length_append, List.length_cons, List.length_nil]; omega, by rw [he, h2]; simp⟩ (by show s.length - (i + 1 + 1) < s.length - i; omega)
      · have h110 : ¬ s.getD (i + 1) 0 = 110 := by intro h; apply hc; rw [h]; rfl
        rw [if_neg h110] at h2
        refine rn ?_
        refine sBs tb (i + 1) ?_
        generalize s.getD (i + 1) 0 = c at h2 ⊢
        refine rn ?_
        refine sBs' tb (bysC [c]) ?_ (hkl := bysC_k _)
        intro v6 W6 ho6 hs6 hx6
        refine sApb tb (ho.to hx6) ho6.sli (fun v7 W7 ho7 hg7 => ?_) (hl := by simp only [List.length_cons, List.length_nil]; omega) (hB := by have := hx6.size; omega)
        have hx7 : Ext w W7 := Below.trans (B := w.heap.size) (hx.trans hx6) hg7.bl
        refine rn ?_
        refine sAd tb ?_
        refine rn ?_
        exact G.lp (x := (i, u)) (i + 1 + 1, v7) (by repeat (first | exact Sub.nil _ | refine Sub.cons rfl ?_)) ⟨hx7, hlt1, out ++ [c], ho7, by simp only [List.length_append, List.length_cons, List.length_nil]; omega, by rw [he, h2]; simp⟩ (by show s.length - (i + 1 + 1) < s.length - i; omega)
    · have h1 := hone (by
        rintro ⟨h92, hlt1, h⟩
        rw [decide_eq_true (show ((s.getD i 0).toNat : Int) = 92 by rw [h92]; rfl), decide_eq_true (show ((i : Int) + 1) < s.length by omega)] at hc
        rcases h with h | h
        · rw [h] at hc; simp at hc
        · rw [h] at hc; simp at hc)
      clear hone htwo hc
      refine rn ?_
      refine sBs tb i ?_
      generalize s.getD i 0 = c at h1 ⊢
      refine rn ?_
      refine sBs' tb (bysC [c]) ?_ (hkl := bysC_k _)
      intro v6 W6 ho6 hs6 hx6
      refine sApb tb (ho.to hx6) ho6.sli (fun v7 W7 ho7 hg7 => ?_) (hl := by simp only [List.length_cons, List.length_nil]; omega) (hB := by have := hx6.size; omega)
      have hx7 : Ext w W7 := Below.trans (B := w.heap.size) (hx.trans hx6) hg7.bl
      refine rn ?_
      refine sAd tb ?_
      refine rn ?_
      exact G.lp (x := (i, u)) (i + 1, v7) (by repeat (first | exact Sub.nil _ | refine Sub.cons rfl ?_)) ⟨hx7, hlt, out ++ [c], ho7, by simp only [List.length_append, List.length_cons, List.length_nil]; omega, by rw [he, h1]; simp⟩ (by show s.length - (i + 1) < s.length - i; omega)
  · have hi2 : i = s.length := by omega
    rw [drop_no (by omega)] at he
    have he2 : unescP s = out := by rw [he]; simp [unescP]
    have hos := ho.sli
    refine rn ?_
    refine sByS tb hos ?_
    refine rn ?_
    refine G.ret1 rfl rfl rfl rfl ?_
    exact ⟨by rw [he2], hx⟩
theorem trimR_last {s : List UInt8} {k : Nat} (hk : k < s.length) (hb : blB (s.getD k 0) = true) : trimR (s.take (k + 1)) = trimR (s.take k) := by
  have : s.take (k + 1) = s.take k ++ [s.getD k 0] := by rw [List.take_succ_eq_append_getElem hk, List.getD_eq_getElem?_getD, List.getElem?_eq_getElem hk]; rfl
  rw [this]
  unfold trimR skipB
  rw [List.reverse_append]
  simp only [List.reverse_cons, List.reverse_nil, List.nil_append, List.singleton_append, bls, hb, if_true, List.drop_succ_cons]
theorem trimR_end {s : List UInt8} {k : Nat} (hk : k < s.length) (hb : blB (s.getD k 0) = false) : trimR (s.take (k + 1)) = s.take (k + 1) := by
  have : s.take (k + 1) = s.take k ++ [s.getD k 0] := by rw [List.take_succ_eq_append_getElem hk, List.getD_eq_getElem?_getD, List.getElem?_eq_getElem hk]; rfl
  rw [this]
  unfold trimR skipB
  rw [List.reverse_append]
  simp only [List.reverse_cons, List.reverse_nil, List.nil_append, List.singleton_append, bls, hb, Bool.false_eq_true, if_false, List.drop_zero, List.reverse_reverse]
/-- what kind gives -/
def kindV (s : List UInt8) : Value := if kindsL.contains (trimR s) then .tuple ⟨[S (trimR s), .bool true]⟩ else .tuple ⟨[S [], .bool false]⟩
set_option maxHeartbeats 2000000 in
theorem kind_ok (s : List UInt8) (w : World) (hs : s.length ≤ 1000000) : Ret Tryz.prog 32 ⟨[S s]⟩ w fun r w' => r = kindV s ∧ Ext w w' := by
  refine ret_of_G Tryz.func32 rfl Tryz.ntmps32 rfl ?_
  simp only [argEnv]
  refine rn ?_
  refine (G.loop (fun x : List UInt8 => [(0, none, S x)]) (fun x W => Ext w W ∧ x.length ≤ s.length ∧ trimR x = trimR s) (fun x => x.length) s (by repeat (first | exact Sub.nil _ | refine Sub.cons rfl ?_)) ⟨Ext.refl _, Nat.le_refl _, rfl⟩ ?_)
  rintro x W ⟨hx, hk, he⟩
  refine rn ?_
  refine GL.cons (Step.arith (k := .i64) (a := x.length) (r := (x.length : Int) - 1) rfl (Op1.of rfl (by first | exact fun _ => rfl | exact fun h => h | exact fun h => bL h | exact fun h => bL (bL h) | exact fun h => bL (bL (bL h)))) (Op1.of rfl (by first | exact fun _ => rfl | exact fun h => h | exact fun h => bL h | exact fun h => bL (bL h) | exact fun h => bL (bL (bL h)))) (wrap_i64 (by omega) (by omega)) rfl ?_)
  refine rn ?_
  refine sBs tb (x.length - 1) ?_ (hj := fun hc => by simp [cv] at hc; exact ⟨by omega, by omega⟩)
  refine rn ?_
  refine sCallx c66 (fun hc => rblank_ok _ W) ?_
  intro W2 hx2
  have hx2 := hx.trans hx2
  refine rn ?_
  refine G.cond rfl (fun hc => ?_) (fun hc => ?_)
  · simp only [Bool.and_eq_true, decide_eq_true_eq] at hc
    have hx1 : x.length - 1 < x.length := by omega
    have ht := trimR_last hx1 hc.2
    rw [List.take_of_length_le (show x.length ≤ x.length - 1 + 1 by omega)] at ht
    refine rn ?_
    refine GL.cons (Step.arith (k := .i64) (a := x.length) (r := ((x.length - 1 : Nat) : Int)) rfl (Op1.of rfl (by first | exact fun _ => rfl | exact fun h => h | exact fun h => bL h | exact fun h => bL (bL h) | exact fun h => bL (bL (bL h)))) (Op1.of rfl (by first | exact fun _ => rfl | exact fun h => h | exact fun h => bL h | exact fun h => bL (bL h) | exact fun h => bL (bL (bL h)))) ((wrap_i64 (n := (x.length : Int) - 1) (by omega) (by omega)).trans (by omega)) rfl ?_)
    refine rn ?_
    refine GL.cons (Step.sliceSh tb (x.length - 1) rfl (Op1.of rfl (by first | exact fun _ => rfl | exact fun h => h | exact fun h => bL h | exact fun h => bL (bL h) | exact fun h => bL (bL (bL h)))) (Op1.of rfl (by first | exact fun _ => rfl | exact fun h => h | exact fun h => bL h | exact fun h => bL (bL h) | exact fun h => bL (bL (bL h)))) rfl (fun _ => ⟨rfl, by omega⟩) rfl ?_)
    refine rn ?_
    exact G.lp (x := x) (x.take (x.length - 1)) (by repeat (first | exact Sub.nil _ | refine Sub.cons rfl ?_)) ⟨hx2, by rw [List.length_take]; omega, by rw [← ht]; exact he⟩ (by rw [List.length_take]; omega)
  · have he2 : trimR s = x := by
      rw [← he]
      by_cases h0 : x = []
      · rw [h0]; rfl
      have hp := List.length_pos_iff.2 h0
      rw [decide_eq_true (show (0 : Int) < x.length by omega), Bool.true_and] at hc
      have := trimR_end (show x.length - 1 < x.length by omega) hc
      rwa [List.take_of_length_le (show x.length ≤ x.length - 1 + 1 by omega)] at this
    unfold kindV
    rw [he2]
    clear hc he he2
    refine rn ?_
    refine sAl tb (fun W3 hb3 hs3 hx3 => ?_)
    obtain ⟨b, hbe⟩ : ∃ b, b = W2.heap.size := ⟨_, rfl⟩
    rw [← hbe] at hb3 hs3 ⊢
    refine rn ?_
    refine sSt tb (fun W4 hb4 hw4 => ?_) (vs := kindsL.map fun x => S x) (hv := rfl) (h1 := by simp [kindsL, Value.oneCell', S])
    have hx4 : Ext w W4 := (hx2.trans hx3).ofKp hw4.kp (by have := hx2.size; omega)
    refine rn ?_
    refine (G.loop (fun j : Nat => [(0, none, S x), (4, none, ptr b), (5, none, .int .i64 j)]) (fun j W => W4 = W ∧ j ≤ 5 ∧ x ∉ kindsL.take j) (fun j => 5 - j) 0 (by repeat (first | exact Sub.nil _ | refine Sub.cons rfl ?_)) ⟨rfl, by omega, by simp⟩ ?_)
    rintro j _ ⟨rfl, hj, hno⟩
    have hkl : kindsL.length = 5 := rfl
    refine rn ?_
    first | refine G.condD rfl (fun hc => ?_) (fun hc => ?_) | refine G.condN rfl (fun hc => ?_) (fun hc => ?_) | refine G.cond rfl (fun hc => ?_) (fun hc => ?_)
    · have hlt : j < 5 := by omega
      obtain ⟨y, hy⟩ : ∃ y, kindsL[j]? = some y := ⟨_, List.getElem?_eq_getElem (by rw [hkl]; exact hlt)⟩
      have htk : kindsL.take (j + 1) = kindsL.take j ++ [y] := by rw [List.take_add_one, hy]; rfl
      refine rn ?_
      refine sIaA tb j ?_ (hj := fun _ => ⟨rfl, hlt⟩)
      have hb5 : Bx W4 b (kindsL.map fun x => S x) := hb4
      refine sLd tb (u := S y) ?_ (hc := fun _ => by rw [Nat.mul_one]; exact Bx.ci hb5 (by rw [List.getElem?_map, hy]; rfl))
      refine rn ?_
      first | refine G.condD rfl (fun hc => ?_) (fun hc => ?_) | refine G.condN rfl (fun hc => ?_) (fun hc => ?_) | refine G.cond rfl (fun hc => ?_) (fun hc => ?_)
      · have hxy : x = y := by simpa using hc
        refine rn ?_
        refine G.ret2 rfl rfl rfl rfl rfl ?_
        rw [if_pos]
        · exact ⟨rfl, hx4⟩
        · rw [List.contains_iff_mem, hxy]
          exact List.mem_of_getElem? hy
      · have hxy : ¬ x = y := by simpa using hc
        refine rn ?_
        refine sAd tb ?_
        refine rn ?_
        refine G.lp (x := j) (j + 1) (by repeat (first | exact Sub.nil _ | refine Sub.cons rfl ?_)) ⟨rfl, hlt, ?_⟩ (by omega)
        rw [htk, List.mem_append, List.mem_singleton]
        rintro (h | h)
        · exact hno h
        · exact hxy h
    · have hje : j = 5 := by omega
      subst hje
      refine rn ?_
      refine G.ret2 rfl rfl rfl rfl rfl ?_
      rw [if_neg]
      · exact ⟨rfl, hx4⟩
      · rw [List.contains_iff_mem]
        exact hno
end Go.Proofs.YtcngoccnfmhhnaaGreatDoor
end
section
open Go Go.Vg Go.RowKit Go.Proofs Go.Proofs.YtcngoccnfmhhnaaGreatDoor
namespace Go.Proofs.YtcngoccnfmhhnaaGreatDoor
open Go.Ex

theorem fam_at : ∀ (l : List Fam) (i : Nat) (f : Fam) (n : List UInt8), (l.map Fam.name).Nodup → l[i]? = some f → (f.name = n ↔ famAt l n = i)
  | [], i, f, n, _, h => by simp at h
  | g :: l, 0, f, n, hd, h => by
    simp only [List.getElem?_cons_zero, Option.some.injEq] at h
    subst h
    simp only [famAt]
    by_cases hg : g.name = n
    · rw [if_pos hg]; exact ⟨fun _ => rfl, fun _ => hg⟩
    · rw [if_neg hg]; exact ⟨fun h => absurd h hg, fun h => by cases h⟩
  | g :: l, i + 1, f, n, hd, h => by
    simp only [List.getElem?_cons_succ] at h
    simp only [List.map_cons, List.nodup_cons] at hd
    have ih := fam_at l i f n hd.2 h
    simp only [famAt]
    by_cases hg : g.name = n
    · rw [if_pos hg]
      refine ⟨fun hf => ?_, fun h => by cases h⟩
      exfalso
      apply hd.1
      rw [hg, ← hf]
      exact List.mem_map_of_mem (List.mem_of_getElem? h)
    · rw [if_neg hg, ih]
      omega
theorem fam1_nodup {l : List Fam} {n : List UInt8} (h : (l.map Fam.name).Nodup) : ((fam1 l n).map Fam.name).Nodup := by
  unfold fam1
  split
  · exact h
  · rename_i hn
    rw [List.map_append, List.nodup_append]
    refine ⟨h, by simp, ?_⟩
    intro a ha b hb
    have hbn : b = n := List.mem_singleton.1 hb
    intro e
    obtain ⟨f, hf, hfn⟩ := List.mem_map.1 ha
    obtain ⟨i, hi⟩ := List.getElem?_of_mem hf
    have := (fam_at l i f n h hi).1 (hfn.trans (e.trans hbn))
    have hlt := (List.getElem?_eq_some_iff.1 hi).1
    omega
theorem famPut_nodup {l : List Fam} {x : Said} (h : (l.map Fam.name).Nodup) : ((famPut l x).map Fam.name).Nodup := by
  have h1 := fam1_nodup (n := x.name) h
  have h2 := fam1_lt l x.name
  rw [famPut_set]
  generalize fam1 l x.name = L at h1 h2 ⊢
  have : (L.set (famAt l x.name) (famSet x (L.getD (famAt l x.name) (fam0 [])))).map Fam.name = L.map Fam.name := by
    refine List.ext_getElem (by simp) fun i h1 h2 => ?_
    simp only [List.getElem_map, List.getElem_set]
    split
    · rename_i he
      subst he
      rw [famSet_name, List.getD_eq_getElem?_getD, List.getElem?_eq_getElem]
      rfl
    · rfl
  rw [this]
  exact h1
/-- where a row lies: where it lay, or in new memory -/
def OwnN (w : World) (v v' : Value) : Prop := ∀ g, v'.ownBlock = some g → v.ownBlock = some g ∨ w.heap.size ≤ g
theorem Grew.tr3 {B : Nat} {v v' : Value} {w w1 w2 : World} (h : Grew B v w w1) (ho : OwnN w v v') (k : Grew B v' w1 w2) : Grew B v w w2 := by
  refine ⟨fun w0 hb => k.below _ (h.below _ hb), Nat.le_trans h.size k.size, fun q hq hne => (k.block q (Nat.lt_of_lt_of_le hq h.size) ?_).trans (h.block q hq hne)⟩
  intro e
  rcases ho q e.symm with h | h
  · exact hne h.symm
  · omega
/-- what is written down of it -/
def saidT (x : Said) : List UInt8 := if x.word = typeW then trimR x.rest else unescP x.rest
set_option maxHeartbeats 2000000 in
theorem put_ok (w : World) (B : Nat) (v : Value) (fams : List Fam) (x : Said) (h : Owns w B v 74 3 (fams.map famC)) (hB : B ≤ w.heap.size) (hl : fams.length ≤ 1000000) (hd : (fams.map Fam.name).Nodup) (hw : x.word = helpW ∨ x.word = typeW) :
    Ret Tryz.prog 35 ⟨[v, S x.name, S x.word, S (saidT x)]⟩ w fun r w' => Owns w' B r 74 3 ((famPut fams x).map famC) ∧ Grew B v w w' ∧ OwnN w v r := by
  have hln : (fams.map famC).length = fams.length := by simp
  have hle := famAt_le fams x.name
  have hlt1 := fam1_lt fams x.name
  refine ret_of_G Tryz.func35 rfl Tryz.ntmps35 rfl ?_
  simp only [argEnv]
  refine rn ?_
  refine (G.loop (fun y : Nat × Int => [(0, none, v), (1, none, S x.name), (2, none, S x.word), (3, none, S (saidT x)), (9, none, .int .i64 y.2), (10, none, .int .i64 y.1)]) (fun y W => w = W ∧ y.1 ≤ fams.length ∧ y.2 = if famAt fams x.name < y.1 then (famAt fams x.name : Int) else -1) (fun y => fams.length - y.1) (0, -1) (by repeat (first | exact Sub.nil _ | refine Sub.cons rfl ?_)) ⟨rfl, Nat.zero_le _, by rw [if_neg (by omega)]⟩ ?_)
  rintro ⟨i, k⟩ _ ⟨rfl, hi, hk⟩
  simp only at hi hk ⊢
  have hs := h.sli
  refine rn ?_
  first | refine G.condD rfl (fun hc => ?_) (fun hc => ?_) | refine G.condN rfl (fun hc => ?_) (fun hc => ?_) | refine G.cond rfl (fun hc => ?_) (fun hc => ?_)
  · have hlt : i < fams.length := by omega
    obtain ⟨f, hf⟩ : ∃ f, fams[i]? = some f := ⟨_, List.getElem?_eq_getElem hlt⟩
    have hget : (fams.map famC)[i]? = some (famC f) := by rw [List.getElem?_map, hf]; rfl
    have hat := fam_at fams i f x.name hd hf
    try (first | refine gl tb ?_ | refine gg tb ?_ | refine ll tb ?_ | refine lg tb ?_); repeat ((first | refine G.condT rfl ?_ | refine G.condF rfl ?_ | refine sFa tb ?_ | refine sLd tb ?_ | refine sLa tb ?_ | refine sLen tb ?_ | refine sFd tb ?_ | refine sBd tb ?_ | refine sIa tb i ?_); try (first | refine gl tb ?_ | refine gg tb ?_ | refine ll tb ?_ | refine lg tb ?_))
    first | refine G.condD rfl (fun hc => ?_) (fun hc => ?_) | refine G.condN rfl (fun hc => ?_) (fun hc => ?_) | refine G.cond rfl (fun hc => ?_) (fun hc => ?_)
    · have ha := hat.1 hc
      refine rn ?_
      refine sAd tb ?_
      refine rn ?_
      exact G.lp (x := (i, k)) (i + 1, (i : Int)) (by repeat (first | exact Sub.nil _ | refine Sub.cons rfl ?_)) ⟨rfl, hlt, by rw [if_pos (show famAt fams x.name < i + 1 by omega), ha]⟩ (by show fams.length - (i + 1) < fams.length - i; omega)
    · have ha : ¬ famAt fams x.name = i := fun e => hc (hat.2 e)
      refine rn ?_
      refine sAd tb ?_
      refine rn ?_
      refine G.lp (x := (i, k)) (i + 1, k) (by repeat (first | exact Sub.nil _ | refine Sub.cons rfl ?_)) ⟨rfl, hlt, ?_⟩ (by show fams.length - (i + 1) < fams.length - i; omega)
      rw [hk]
      by_cases h2 : famAt fams x.name < i
      · rw [if_pos h2, if_pos (show famAt fams x.name < i + 1 by omega)]
      · rw [if_neg h2, if_neg (show ¬ famAt fams x.name < i + 1 by omega)]
  · have hie : i = fams.length := by omega
    subst hie
    clear hc hi
    refine rn ?_
    have hll : ((fam1 fams x.name).map famC).length = (fam1 fams x.name).length := by simp
    refine G.join (fun y : Value => [(0, none, y), (2, none, S x.word), (3, none, S (saidT x)), (9, none, .int .i64 (famAt fams x.name : Nat))]) (fun y W => Owns W B y 74 3 ((fam1 fams x.name).map famC) ∧ Grew B v w W ∧ OwnN w v y) ?_ ?_
    · rintro y W ⟨ho, hg, h2⟩
      have hys := ho.sli
      obtain ⟨f, hf⟩ : ∃ f, (fam1 fams x.name)[famAt fams x.name]? = some f := ⟨_, List.getElem?_eq_getElem hlt1⟩
      have hget : ((fam1 fams x.name).map famC)[famAt fams x.name]? = some (famC f) := by rw [List.getElem?_map, hf]; rfl
      refine rn ?_
      first | refine G.condD rfl (fun hc => ?_) (fun hc => ?_) | refine G.condN rfl (fun hc => ?_) (fun hc => ?_) | refine G.cond rfl (fun hc => ?_) (fun hc => ?_)
      · have hwt : x.word = typeW := hc
        have hwh : ¬ x.word = helpW := by rw [hwt]; decide
        have hset : ∀ f, famC (famSet x f) = (famC f).set 1 (S (saidT x)) := by
          intro f
          unfold famSet saidT
          rw [if_neg hwh, if_pos hwt]
          rfl
        refine rn ?_
        refine sIa tb (famAt fams x.name) ?_ (hs := fun _ => ⟨_, hys⟩) (hj := fun _ => ⟨rfl, by rw [hll]; exact hlt1⟩)
        refine rn ?_
        refine GL.cons (Step.storeRowF tb (j := famAt fams x.name) (off := 1) rfl (Op1.of rfl (by first | exact fun _ => rfl | exact fun h => h | exact fun h => bL h | exact fun h => bL (bL h) | exact fun h => bL (bL (bL h)))) (Op1.of rfl (by first | exact fun _ => rfl | exact fun h => h | exact fun h => bL h | exact fun h => bL (bL h) | exact fun h => bL (bL (bL h)))) rfl rfl rfl ho (by rw [hll]; exact hlt1) (by decide) ?_)
        intro W4 ho4 hg4
        rw [famC_set fams x 1 _ hset] at ho4
        refine rn ?_
        refine G.ret1 rfl rfl rfl rfl ?_
        exact ⟨ho4, Go.Proofs.YtcngoccnfmhhnaaGreatDoor.Grew.tr3 hg h2 hg4, h2⟩
      · have hwh : x.word = helpW := by
          rcases hw with h | h
          · exact h
          · exact absurd h hc
        have hwt : ¬ x.word = typeW := hc
        have hset : ∀ f, famC (famSet x f) = (famC f).set 2 (S (saidT x)) := by
          intro f
          unfold famSet saidT
          rw [if_pos hwh, if_neg hwt]
          rfl
        refine rn ?_
        refine sIa tb (famAt fams x.name) ?_ (hs := fun _ => ⟨_, hys⟩) (hj := fun _ => ⟨rfl, by rw [hll]; exact hlt1⟩)
        refine rn ?_
        refine GL.cons (Step.storeRowF tb (j := famAt fams x.name) (off := 2) rfl (Op1.of rfl (by first | exact fun _ => rfl | exact fun h => h | exact fun h => bL h | exact fun h => bL (bL h) | exact fun h => bL (bL (bL h)))) (Op1.of rfl (by first | exact fun _ => rfl | exact fun h => h | exact fun h => bL h | exact fun h => bL (bL h) | exact fun h => bL (bL (bL h)))) rfl rfl rfl ho (by rw [hll]; exact hlt1) (by decide) ?_)
        intro W4 ho4 hg4
        rw [famC_set fams x 2 _ hset] at ho4
        refine rn ?_
        refine G.ret1 rfl rfl rfl rfl ?_
        exact ⟨ho4, Go.Proofs.YtcngoccnfmhhnaaGreatDoor.Grew.tr3 hg h2 hg4, h2⟩
    · by_cases hin : famAt fams x.name < fams.length
      · rw [if_pos hin] at hk
        subst hk
        have hf1 : fam1 fams x.name = fams := by unfold fam1; rw [if_pos hin]
        rw [decide_eq_false (show ¬ ((famAt fams x.name : Nat) : Int) < 0 by omega)]
        refine rn ?_
        exact G.met v (by repeat (first | exact Sub.nil _ | refine Sub.cons rfl ?_)) ⟨by rw [hf1]; exact h, Grew.refl _ _ _, fun _ h => .inl h⟩
      · rw [if_neg hin] at hk
        subst hk
        have hn : famAt fams x.name = fams.length := by omega
        have hf1 : fam1 fams x.name = fams ++ [fam0 x.name] := by unfold fam1; rw [if_neg hin]
        refine rn ?_
        refine sBs' tb [famC (fam0 x.name)] (fun us W2 ho2 hs2 hx2 => ?_) (hkl := by simp [famC])
        refine sApp2 tb (h.to hx2) ho2.sli (fun v' W3 hv3 hg3 ho3 => ?_) (h1 := by intro z hz c hc; obtain rfl := List.mem_singleton.1 hz; simp only [famC, fam0, List.mem_cons, List.not_mem_nil, or_false] at hc; rcases hc with rfl | rfl | rfl <;> rfl)
        have hv3 : Owns W3 B v' 74 3 ((fams ++ [fam0 x.name]).map famC) := by rw [List.map_append]; exact hv3
        have hl3 : ((fams ++ [fam0 x.name]).map famC).length = fams.length + 1 := by simp
        have hs3 := hv3.sli
        have hlen : ((fams.map famC).length + 1 : Int) - 1 = (famAt fams x.name : Nat) := by rw [hln, hn]; omega
        refine rn ?_
        refine GL.cons (Step.arith (k := .i64) (r := ((famAt fams x.name : Nat) : Int)) rfl (Op1.of rfl (by first | exact fun _ => rfl | exact fun h => h | exact fun h => bL h | exact fun h => bL (bL h) | exact fun h => bL (bL (bL h)))) (Op1.of rfl (by first | exact fun _ => rfl | exact fun h => h | exact fun h => bL h | exact fun h => bL (bL h) | exact fun h => bL (bL (bL h)))) ?_ rfl ?_)
        · rw [hl3, hn]
          exact (wrap_i64 (n := ((fams.length + 1 : Nat) : Int) - 1) (by omega) (by omega)).trans (by omega)
        refine rn ?_
        refine G.met v' (by repeat (first | exact Sub.nil _ | refine Sub.cons rfl ?_)) ⟨by rw [hf1]; exact hv3, Go.Proofs.YtcngoccnfmhhnaaGreatDoor.Grew.tr3 (Grew.ofExt hx2 hB) (fun _ h => .inl h) hg3, fun g hg => ?_⟩
        rcases ho3 with e | e
        · exact .inl (by rw [← e]; exact hg)
        · rw [e] at hg
          have := Option.some.inj hg
          have := hx2.size
          exact .inr (by omega)
end Go.Proofs.YtcngoccnfmhhnaaGreatDoor
end
section
open Go Go.Vg Go.RowKit Go.Proofs Go.Proofs.YtcngoccnfmhhnaaGreatDoor
namespace Go.Proofs.YtcngoccnfmhhnaaGreatDoor
open Go.Ex

theorem linesGo_n10 : ∀ (s cur : List UInt8), (∀ c ∈ cur, c ≠ 10) → ∀ y ∈ linesGo cur s, ∀ c ∈ y, c ≠ 10
  | [], cur, h, y, hy => by
    simp only [linesGo] at hy
    split at hy
    · simp at hy
    · rw [List.mem_singleton.1 hy]; exact h
  | b :: s, cur, h, y, hy => by
    simp only [linesGo] at hy
    split at hy
    · rcases List.mem_cons.1 hy with rfl | hy
      · exact h
      · exact linesGo_n10 s [] (by simp) y hy
    · rename_i hb
      refine linesGo_n10 s (cur ++ [b]) ?_ y hy
      intro c hc
      rcases List.mem_append.1 hc with hc | hc
      · exact h c hc
      · rw [List.mem_singleton.1 hc]; exact hb
theorem linesP_no {s y : List UInt8} (h : y ∈ linesP s) (k : Nat) : y[k]? ≠ some 10 := fun e => linesGo_n10 s [] (by simp) y h 10 (List.mem_of_getElem? e) rfl
/-- what the reference's Read keeps -/
structure RR (W : World) (B : Nat) (lv fv : Value) (l : List Sm) (fams : List Fam) : Prop where
  ls : LinS W B lv l
  fs : Owns W B fv 74 3 (fams.map famC)
  nov : ∀ g, lv.ownBlock = some g → fv.ownBlock ≠ some g
  nof : ∀ x ∈ l, ∀ g, x.v.ownBlock = some g → fv.ownBlock ≠ some g
  nd : (fams.map Fam.name).Nodup
theorem RR.to {W W' : World} {B : Nat} {lv fv : Value} {l : List Sm} {fams : List Fam} (h : RR W B lv fv l fams) (hx : Ext W W') : RR W' B lv fv l fams := ⟨h.ls.to hx, h.fs.to hx, h.nov, h.nof, h.nd⟩
theorem RR.push {W W1 : World} {B : Nat} {lv lv' fv : Value} {l : List Sm} {fams : List Fam} {x : Sm} (h : RR W B lv fv l fams) (hx : Lab.LO W B x.v x.out) (hxn : ∀ g, x.v.ownBlock = some g → lv.ownBlock ≠ some g ∧ fv.ownBlock ≠ some g) (hxd : ∀ y ∈ l, ∀ g, y.v.ownBlock = some g → x.v.ownBlock ≠ some g) (hg : Grew B lv W W1) (ho : Owns W1 B lv' 44 4 ((l ++ [x]).map smC)) (h2 : Own2 W lv lv') : RR W1 B lv' fv (l ++ [x]) fams := by
  have hnl : ∀ g, g < W.heap.size → lv'.ownBlock = some g → lv.ownBlock = some g := by
    intro g hgl hg
    rcases h2 with h2 | h2
    · rw [← h2]; exact hg
    · rw [h2] at hg; cases hg; omega
  refine ⟨⟨ho, fun y hy => ?_, fun y hy g hg' e => ?_, List.pairwise_append.2 ⟨h.ls.dj, List.pairwise_singleton _ _, fun y hy z hz g hg' => by rw [List.mem_singleton.1 hz]; exact hxd y hy g hg'⟩⟩, ?_, fun g hg' e => ?_, fun y hy g hg' e => ?_, h.nd⟩
  · rcases List.mem_append.1 hy with hy | hy
    · exact (h.ls.lo y hy).same fun g hgl e => hg.block g hgl (fun e2 => h.ls.ne y hy g e e2.symm)
    · obtain rfl := List.mem_singleton.1 hy
      exact hx.same fun g hgl e => hg.block g hgl (fun e2 => (hxn g e).1 e2.symm)
  · rcases List.mem_append.1 hy with hy | hy
    · exact h.ls.ne y hy g hg' (hnl g ((h.ls.lo y hy).lt g hg').2 e)
    · obtain rfl := List.mem_singleton.1 hy
      exact (hxn g hg').1 (hnl g (hx.lt g hg').2 e)
  · exact h.fs.same fun g hgl e => hg.block g hgl (fun e2 => h.nov g e2.symm e)
  · exact h.nov g (hnl g (h.fs.lt g e).2 hg') e
  · rcases List.mem_append.1 hy with hy | hy
    · exact h.nof y hy g hg' e
    · obtain rfl := List.mem_singleton.1 hy
      exact (hxn g hg').2 e
theorem RR.put {W W1 : World} {B : Nat} {lv fv fv' : Value} {l : List Sm} {fams fams' : List Fam} (h : RR W B lv fv l fams) (hg : Grew B fv W W1) (ho : Owns W1 B fv' 74 3 (fams'.map famC)) (h2 : OwnN W fv fv') (hd : (fams'.map Fam.name).Nodup) : RR W1 B lv fv' l fams' := by
  refine ⟨h.ls.same (fun g hg' => hg.block g (h.ls.ow.lt g hg').2 fun e => h.nov g hg' e.symm) (fun x hx g hg' => hg.block g ((h.ls.lo x hx).lt g hg').2 fun e => h.nof x hx g hg' e.symm), ho, fun g hg' e => ?_, fun x hx g hg' e => ?_, hd⟩
  · rcases h2 g e with h3 | h3
    · exact h.nov g hg' h3
    · have := (h.ls.ow.lt g hg').2; omega
  · rcases h2 g e with h3 | h3
    · exact h.nof x hx g hg' h3
    · have := ((h.ls.lo x hx).lt g hg').2; omega
theorem unescP_le (n : Nat) : ∀ l : List UInt8, l.length ≤ n → (unescP l).length ≤ l.length := by
  induction n with
  | zero => intro l h; rw [List.eq_nil_of_length_eq_zero (Nat.le_zero.1 h)]; simp [unescP]
  | succ n ih =>
    intro l h
    match l, h with
    | [], _ => simp [unescP]
    | [c], _ => simp [unescP]
    | c :: d :: l, h =>
      simp only [List.length_cons] at h
      simp only [unescP]
      split
      · have := ih l (by omega)
        simp only [List.length_cons]; omega
      · have := ih (d :: l) (by simp only [List.length_cons]; omega)
        simp only [List.length_cons] at this ⊢; omega
theorem saysP_word {s : List UInt8} {x : Said} (h : saysP metB s = some x) : x.word = helpW ∨ x.word = typeW := by
  unfold saysP at h
  split at h
  · cases h
  · split at h
    · cases h
    · split at h
      · cases h
      · rename_i wd l1 h1 h2
        split at h
        · cases h
        · split at h
          · cases h
          · split at h
            · cases h
            · split at h
              · cases h
                show wd = _ ∨ wd = _
                by_cases h3 : wd = helpW
                · exact .inl h3
                · by_cases h4 : wd = typeW
                  · exact .inr h4
                  · exact absurd ⟨h3, h4⟩ h2
              · cases h
set_option maxHeartbeats 4000000 in
theorem rbody_ok (w : World) (v : Value) (s : List UInt8) (lim : Int) (hv : By w v s) (hs : s.length ≤ 3000) : Ret Tryz.prog 14 ⟨[v, .int .i64 lim]⟩ w (ReadS lim s w) := by
  have hlen := linesP_len s
  refine ret_of_G Tryz.func14 rfl Tryz.ntmps14 rfl ?_
  simp only [argEnv]
  refine rn ?_
  refine sCall c8 (refLines_ok v s w hv (by omega)) ?_
  rintro av W0 ⟨hav, hx0⟩
  obtain ⟨B, hBe⟩ : ∃ B, B = W0.heap.size := ⟨_, rfl⟩
  have hwB : w.heap.size ≤ B := by rw [hBe]; exact hx0.size
  have havB : ∀ g, av.ownBlock = some g → g < B := fun g hg => by rw [hBe]; exact (hav.lt g hg).2
  refine rn ?_
  refine (G.loop (fun z : Nat × Value × Value => [(1, none, .int .i64 lim), (8, none, z.2.1), (9, none, z.2.2), (10, none, av), (11, none, .int .i64 z.1)]) (fun z W => Ext w W ∧ B ≤ W.heap.size ∧ z.1 ≤ (linesP s).length ∧ StrO W w.heap.size av (linesP s) ∧ ∃ l fams, RR W B z.2.1 z.2.2 l fams ∧ fams.length ≤ z.1 ∧ l.length ≤ z.1 ∧ rdR lim 1 ⟨[], []⟩ (linesP s) = rdR lim (z.1 + 1) ⟨l.map smP, fams⟩ ((linesP s).drop z.1)) (fun z => (linesP s).length - z.1) (0, .slice none 0 0, .slice none 0 0) (by repeat (first | exact Sub.nil _ | refine Sub.cons rfl ?_)) ⟨hx0, by rw [hBe]; exact Nat.le_refl _, Nat.zero_le _, hav, [], [], ⟨⟨Owns.nil _ _ _ _, by simp, by simp, by simp⟩, Owns.nil _ _ _ _, by simp [Value.ownBlock], by simp, by simp⟩, by simp, by simp, rfl⟩ ?_)
  clear hav hBe hx0
  rintro ⟨i, lv, fv⟩ W ⟨hx, hB, hi, hav, l, fams, hR, hfi, hli, he⟩
  simp only at hi hR hfi hli he ⊢
  have has := hav.sli
  have hal : ((linesP s).map strC).length = (linesP s).length := by simp
  refine rn ?_
  first | refine G.condD rfl (fun hc => ?_) (fun hc => ?_) | refine G.condN rfl (fun hc => ?_) (fun hc => ?_) | refine G.cond rfl (fun hc => ?_) (fun hc => ?_)
  · have hlt : i < (linesP s).length := by omega
    obtain ⟨y, hy⟩ : ∃ y, (linesP s)[i]? = some y := ⟨_, List.getElem?_eq_getElem hlt⟩
    have hget : ((linesP s).map strC)[i]? = some [S y] := by rw [List.getElem?_map, hy]; rfl
    have hym := List.mem_of_getElem? hy
    have hyl := hlen.2 y hym
    have hyn := linesP_no hym
    have hdr : (linesP s).drop i = y :: (linesP s).drop (i + 1) := by
      obtain ⟨h1, rfl⟩ := List.getElem?_eq_some_iff.1 hy
      exact List.drop_eq_getElem_cons h1
    unfold rdR at he
    rw [hdr, readR] at he
    have hls := hR.ls.ow.sli
    have hlsl : (l.map smC).length = l.length := by simp
    refine rn ?_
    refine sIa tb i ?_ (hs := fun _ => ⟨_, has⟩) (hj := fun _ => ⟨rfl, by rw [hal]; exact hlt⟩)
    refine rn ?_
    refine sCall c29 (skip_ok y 0 W (Nat.zero_le _) (by omega)) ?_
    rintro _ W1 ⟨rfl, hx1⟩
    rw [List.drop_zero, Nat.zero_add]
    have hbl := bls_le y
    have hx01 := hx.trans hx1
    have hB1 := Nat.le_trans hB hx1.size
    have hR1 := hR.to hx1
    have hav1 := hav.to hx1
    clear hR hav has hls
    have hls1 := hR1.ls.ow.sli
    refine rn ?_
    first | refine G.condD rfl (fun hc => ?_) (fun hc => ?_) | refine G.condN rfl (fun hc => ?_) (fun hc => ?_) | refine G.cond rfl (fun hc => ?_) (fun hc => ?_)
    · have hsk : skipB y = [] := by unfold skipB; exact drop_no (by omega)
      rw [stepR_nil hsk] at he
      simp only at he
      refine rn ?_
      refine sAd tb ?_
      refine rn ?_
      exact G.lp (x := (i, lv, fv)) (i + 1, lv, fv) (by repeat (first | exact Sub.nil _ | refine Sub.cons rfl ?_)) ⟨hx01, hB1, hlt, hav1, l, fams, hR1, by omega, by omega, he⟩ (by show _ - (i + 1) < _ - i; omega)
    have hbl2 : bls y < y.length := by omega
    have hsk : skipB y = y.getD (bls y) 0 :: y.drop (bls y + 1) := by unfold skipB; exact drop_at hbl2
    clear hc
    refine rn ?_
    refine sBs tb (bls y) ?_
    refine rn ?_
    first | refine G.condD rfl (fun hc => ?_) (fun hc => ?_) | refine G.condN rfl (fun hc => ?_) (fun hc => ?_) | refine G.cond rfl (fun hc => ?_) (fun hc => ?_)
    · have hc35 : y.getD (bls y) 0 ≠ 35 := by intro h; rw [h] at hc; simp at hc
      rw [stepR_smp hsk hc35] at he
      refine rn ?_
      refine sCall c30 (rreadLine_ok W1 y (by omega) hyn) ?_
      rintro _ W2 ⟨hx2, ⟨L, va, out, hL, rfl, ho⟩ | ⟨hL, a, e, he0, rfl⟩⟩
      rotate_left
      · rw [hL] at he
        simp only at he
        refine rn ?_
        refine sAl tb (fun W3 hb3 hs3 hx3 => ?_)
        refine sSt tb (fun W4 hb4 hw4 => ?_) (vs := linZ) (hv := rfl) (h1 := linZ_one)
        refine rn ?_
        refine G.cond rfl (fun hc => ?_) (fun hc => ?_)
        · refine rn ?_
          refine sAd tb (r := ((i + 1 : Nat) : Int)) ?_
          refine rn ?_
          refine G.ret4 rfl rfl rfl rfl rfl rfl rfl ?_
          exact ⟨((hx01.trans hx2).trans hx3).ofKp hw4.kp (by have := (hx01.trans hx2).size; omega), .inr ⟨i + 1, 8, he, rfl⟩⟩
        · exfalso; apply he0; simpa using hc
      rw [hL] at he
      simp only at he
      have hlv1 : ∀ g, lv.ownBlock = some g → g < W1.heap.size := fun g hg => (hR1.ls.ow.lt g hg).2
      have hfv1 : ∀ g, fv.ownBlock = some g → g < W1.heap.size := fun g hg => (hR1.fs.lt g hg).2
      have hsv1 : ∀ z ∈ l, ∀ g, z.v.ownBlock = some g → g < W1.heap.size := fun z hz g hg => ((hR1.ls.lo z hz).lt g hg).2
      have hone : va.oneCell' = true := ho.sli.one va (List.mem_singleton.2 rfl)
      refine rn ?_
      refine sAl tb (fun W3 hb3 hs3 hx3 => ?_)
      refine sSt tb (fun W4 hb4 hw4 => ?_) (vs := linC va L.val L.time) (hv := rfl) (h1 := linC_one hone)
      have hx24 : Ext W2 W4 := hx3.ofKp hw4.kp (Nat.le_refl _)
      have hx4 := (hx01.trans hx2).trans hx24
      have hB4 : B ≤ W4.heap.size := by have := hx2.size; have := hx24.size; omega
      have hR4 := (hR1.to hx2).to hx24
      have hav4 := (hav1.to hx2).to hx24
      have ho4 := ho.to hx24
      have hb4 : Bx W4 W2.heap.size (linC va L.val L.time) := hb4
      unfold linC at hb4
      clear hR1 hav1 hls1 hb3 hw4 hs3 ho
      have hls4 := hR4.ls.ow.sli
      refine rn ?_
      first | refine G.condD rfl (fun hc => ?_) (fun hc => ?_) | refine G.condN rfl (fun hc => ?_) (fun hc => ?_) | refine G.cond rfl (fun hc => ?_) (fun hc => ?_)
      · rw [if_pos (by simp only [List.length_map]; omega)] at he
        simp only at he
        refine rn ?_
        refine sAd tb (r := ((i + 1 : Nat) : Int)) ?_
        refine rn ?_
        refine G.ret4 rfl rfl rfl rfl rfl rfl rfl ?_
        exact ⟨hx4, .inr ⟨i + 1, 11, he, rfl⟩⟩
      · rw [if_neg (by simp only [List.length_map]; omega)] at he
        simp only at he
        refine rn ?_
        refine sBs' tb [linC va L.val L.time] (fun us W5 ho5 hs5 hx5 => ?_) (hkl := by simp [linC])
        have hR5 := hR4.to hx5
        have hz5 := hx5.size
        refine sApp2 tb hR5.ls.ow ho5.sli (fun lv' W6 hv6 hg6 ho6 => ?_) (h1 := by intro z hz c hc; obtain rfl := List.mem_singleton.1 hz; exact linC_one hone c hc) (hb := by rw [hlsl]; simp only [List.length_cons, List.length_nil]; omega) (hl := by rw [hlsl]; simp only [List.length_cons, List.length_nil]; omega)
        have hv6 : Owns W6 B lv' 44 4 ((l ++ [(⟨L, out, va⟩ : Sm)]).map smC) := by rw [List.map_append]; exact hv6
        have hB1s : B ≤ W1.heap.size := hB1
        have hR6 := hR5.push (x := (⟨L, out, va⟩ : Sm)) ((ho4.to hx5).mono hB1s) (fun g hg => by
          have h1 := (ho4.lt g hg).1
          refine ⟨fun e => ?_, fun e => ?_⟩
          · have := hlv1 g e; omega
          · have := hfv1 g e; omega) (fun z hz g hg e => by have := hsv1 z hz g hg; have := (ho4.lt g e).1; omega) hg6 hv6 ho6
        have hx6 : Ext w W6 := Below.trans (B := w.heap.size) (hx4.trans hx5) (hg6.bl.mono hwB)
        have hav6 : StrO W6 w.heap.size av (linesP s) := (hav4.to hx5).same fun g hg e => hg6.block g hg (fun e2 => by have := havB g e; have := (hR5.ls.ow.lt g e2.symm).1; omega)
        refine rn ?_
        refine sAd tb ?_
        refine rn ?_
        exact G.lp (x := (i, lv, fv)) (i + 1, lv', fv) (by repeat (first | exact Sub.nil _ | refine Sub.cons rfl ?_)) ⟨hx6, by have := hg6.size; omega, hlt, hav6, _, fams, hR6, by omega, by simp only [List.length_append, List.length_cons, List.length_nil]; omega, he.trans (by rw [List.map_append]; rfl)⟩ (by show _ - (i + 1) < _ - i; omega)
    · have hc35 : y.getD (bls y) 0 = 35 := by rw [← UInt8.toNat_inj]; show _ = 35; omega
      rw [stepR_said hsk hc35] at he
      refine rn ?_
      refine sCall c31 (says_ok y W1 hbl2 (by omega)) ?_
      rintro _ W2 ⟨rfl, hx2⟩
      have hx02 := hx01.trans hx2
      have hB2 := Nat.le_trans hB1 hx2.size
      have hR2 := hR1.to hx2
      have hav2 := hav1.to hx2
      clear hR1 hav1 hls1
      cases hsd : saysP metB (y.drop (bls y + 1)) with
      | none =>
        rw [hsd] at he
        simp only at he
        unfold saidV
        refine rn ?_
        refine sAd tb ?_
        refine rn ?_
        exact G.lp (x := (i, lv, fv)) (i + 1, lv, fv) (by repeat (first | exact Sub.nil _ | refine Sub.cons rfl ?_)) ⟨hx02, hB2, hlt, hav2, l, fams, hR2, by omega, by omega, he⟩ (by show _ - (i + 1) < _ - i; omega)
      | some x =>
      rw [hsd] at he
      simp only at he
      have hwd := saysP_word hsd
      have hrl := saysP_len hsd
      rw [List.length_drop] at hrl
      unfold saidV
      refine rn ?_
      refine G.join (fun t : List UInt8 => [(1, none, .int .i64 lim), (8, none, lv), (9, none, fv), (10, none, av), (11, none, .int .i64 i), (17, none, S x.name), (18, none, S x.word), (19, none, S t), (20, none, .bool (saidOk x))]) (fun t W => Ext W2 W ∧ (saidOk x = true → t = saidT x)) ?_ ?_
      · rintro t W3 ⟨hx3, ht⟩
        have hx03 := hx02.trans hx3
        have hB3 := Nat.le_trans hB2 hx3.size
        have hR3 := hR2.to hx3
        have hav3 := hav2.to hx3
        clear hR2 hav2
        cases hok : saidOk x
        · rw [hok] at he
          simp only [Bool.false_eq_true, if_false] at he
          refine rn ?_
          refine sAd tb (r := ((i + 1 : Nat) : Int)) ?_
          refine rn ?_
          refine G.ret4 rfl rfl rfl rfl rfl rfl rfl ?_
          exact ⟨hx03, .inr ⟨i + 1, 8, he, rfl⟩⟩
        · obtain rfl := ht hok
          rw [hok] at he
          simp only [if_true] at he
          refine rn ?_
          refine sCall c35 (put_ok W3 B fv fams x hR3.fs hB3 (by omega) hR3.nd hwd) ?_
          rintro fv' W4 ⟨hfo, hg4, h2⟩
          have hR4 := hR3.put hg4 hfo h2 (famPut_nodup hR3.nd)
          have hx4 : Ext w W4 := Below.trans (B := w.heap.size) hx03 (hg4.bl.mono hwB)
          have hav4 : StrO W4 w.heap.size av (linesP s) := hav3.same fun g hg e => hg4.block g hg (fun e2 => by have := havB g e; have := (hR3.fs.lt g e2.symm).1; omega)
          have hpl := famPut_len fams x
          refine rn ?_
          refine sAd tb ?_
          refine rn ?_
          exact G.lp (x := (i, lv, fv)) (i + 1, lv, fv') (by repeat (first | exact Sub.nil _ | refine Sub.cons rfl ?_)) ⟨hx4, by have := hg4.size; omega, hlt, hav4, l, _, hR4, by omega, by omega, he⟩ (by show _ - (i + 1) < _ - i; omega)
      · by_cases hwt : x.word = typeW
        · have hwh : ¬ x.word = helpW := by rw [hwt]; decide
          have hok : saidOk x = kindsL.contains (trimR x.rest) := by unfold saidOk; rw [if_neg hwh]
          have hst : saidT x = trimR x.rest := by unfold saidT; rw [if_pos hwt]
          rw [show decide (x.word = [84, 89, 80, 69]) = true from decide_eq_true hwt]
          refine rn ?_
          refine sCall c32 (kind_ok x.rest W2 (by omega)) ?_
          rintro _ W3 ⟨rfl, hx3⟩
          unfold kindV
          cases hk : kindsL.contains (trimR x.rest)
          · simp only [Bool.false_eq_true, if_false]
            refine rn ?_
            refine G.met [] (by rw [hok, hk]; exact (by repeat (first | exact Sub.nil _ | refine Sub.cons rfl ?_))) ⟨hx3, fun h => ?_⟩
            rw [hok, hk] at h; cases h
          · simp only [if_true]
            refine rn ?_
            exact G.met (trimR x.rest) (by rw [hok, hk]; exact (by repeat (first | exact Sub.nil _ | refine Sub.cons rfl ?_))) ⟨hx3, fun _ => hst.symm⟩
        · have hwh : x.word = helpW := hwd.resolve_right hwt
          have hok : saidOk x = Lib.validD x.rest := by unfold saidOk; rw [if_pos hwh]
          have hst : saidT x = unescP x.rest := by unfold saidT; rw [if_neg hwt]
          rw [show decide (x.word = [84, 89, 80, 69]) = false from decide_eq_false hwt]
          refine rn ?_
          refine sCall c33 (help_ok x.rest W2 (by omega)) ?_
          rintro _ W3 ⟨rfl, hx3⟩
          refine rn ?_
          refine sCall c34 (Lab.valid_ok (unescP x.rest) W3 (by have := unescP_le _ x.rest (Nat.le_refl _); omega)) ?_
          rintro _ W4 ⟨rfl, hx4⟩
          rw [Lab.validU_D, validD_unescP, ← hok]
          refine rn ?_
          exact G.met (unescP x.rest) (by repeat (first | exact Sub.nil _ | refine Sub.cons rfl ?_)) ⟨hx3.trans hx4, fun _ => hst.symm⟩
  · have hie : i = (linesP s).length := by omega
    rw [hie, List.drop_of_length_le (Nat.le_refl _)] at he
    refine rn ?_
    refine G.ret4 rfl rfl rfl rfl rfl rfl rfl ?_
    exact ⟨hx, .inl ⟨lv, fv, l, fams, he, rfl, ⟨hR.ls.ow.mono hwB, fun x hx => (hR.ls.lo x hx).mono hwB, hR.ls.ne, hR.ls.dj⟩, hR.fs.mono hwB⟩⟩
end Go.Proofs.YtcngoccnfmhhnaaGreatDoor
end
section
open Go Go.Vg Go.RowKit Go.Proofs Go.Proofs.YtcngoccnfmhhnaaGreatDoor
namespace Go.Proofs.YtcngoccnfmhhnaaGreatDoor.Lab

def markL (i : Int) : Lab := ([108, 101, 110, 116], [byI (97 + i)])
theorem labC_one (x : Lab) : ∀ v ∈ labC x, v.oneCell' = true := by simp [Value.oneCell', S, labC]
theorem mark_ok (i : Int) (w : World) (h0 : 0 ≤ i) (h1 : i ≤ 100) : Ret Tryz.prog 38 ⟨[.int .i64 i]⟩ w fun r w' => r = .agg ⟨labC (markL i)⟩ ∧ Ext w w' := by
  refine ret_of_G Tryz.func38 rfl Tryz.ntmps38 rfl ?_
  simp only [argEnv]
  refine rn ?_
  refine sAl tb ?_
  intro w1 hb1 hs1 hx1
  refine rn ?_
  refine sAd tb ?_
  refine sCb tb ?_
  refine sBs' tb (bysC [byI (97 + i)]) ?_ (hkl := bysC_k _)
  intro v2 w2 ho2 hs2 hx2
  have hb2 := hb1.to hx2
  have hx02 := hx1.trans hx2
  refine sByS tb ho2.sli ?_
  refine rn ?_
  refine sSt tb ?_ (b := w.heap.size) (vs := labC (markL i)) (h1 := labC_one _)
  intro w3 hb3 hw3
  refine rn ?_
  exact G.retA tb rfl rfl hb3.cells ⟨rfl, Below.wr hx02 hw3 (Nat.le_refl _)⟩ rfl rfl rfl rfl rfl rfl

end Go.Proofs.YtcngoccnfmhhnaaGreatDoor.Lab
end
section
open Go Go.Vg Go.RowKit Go.Proofs Go.Proofs.YtcngoccnfmhhnaaGreatDoor
namespace Go.Proofs.YtcngoccnfmhhnaaGreatDoor
namespace Lab

abbrev BO (w : World) (B : Nat) (v : Value) (s : List UInt8) : Prop := Owns w B v 5 1 (bysC s)
def marksB : List UInt8 := [201, 202, 203, 204]
theorem lendB_ok (v : Value) (xs : List UInt8) (w : World) (hv : By w v xs) (hn : xs.length ≤ 100000) :
    Ret Tryz.prog 12 ⟨[v]⟩ w fun r w' => ∃ u, r = subS u 1 0 xs.length ∧ BO w' w.heap.size u (xs ++ marksB) ∧ Ext w w' := by
  refine ret_of_G Tryz.func12 rfl Tryz.ntmps12 rfl ?_
  simp only [argEnv]
  refine rn ?_
  refine sBs' tb (bysC []) ?_ (hkl := bysC_k _)
  intro v1 w1 ho1 hs1 hx1
  refine rn ?_
  refine sApb tb ho1 (hv.to hx1) ?_
  intro v2 w2 ho2 hg2
  have hx2 : Ext w w2 := hg2.below _ hx1
  rw [List.nil_append] at ho2
  refine sBs' tb (bysC marksB) ?_ (hkl := bysC_k _)
  intro v3 w3 ho3 hs3 hx3
  have hx23 := hx2.trans hx3
  refine sApb tb (ho2.to hx3) ho3.sli ?_ (hB := hx23.size) (hl := by simp only [marksB, List.length_cons, List.length_nil]; omega)
  intro v4 w4 ho4 hg4
  refine rn ?_
  rw [bysC_len]
  refine GL.cons (Step.sliceVh tb xs.length rfl (Op1.of rfl (by first | exact fun _ => rfl | exact fun h => h | exact fun h => bL h | exact fun h => bL (bL h) | exact fun h => bL (bL (bL h)))) (Op1.of rfl (by first | exact fun _ => rfl | exact fun h => h | exact fun h => bL h | exact fun h => bL (bL h) | exact fun h => bL (bL (bL h)))) rfl rfl (fun _ => ⟨_, ho4.sli⟩) (fun _ => ⟨rfl, by rw [bysC_len]; simp⟩) rfl ?_)
  refine rn ?_
  refine G.ret1 rfl rfl rfl rfl ?_
  exact ⟨v4, rfl, ho4, hg4.below _ hx23⟩

theorem intactB_ok (u v : Value) (xs : List UInt8) (w0 w : World) (hv : By w0 v xs) (hn : xs.length ≤ 100000) (hx : Ext w0 w) (ho : BO w w0.heap.size u (xs ++ marksB)) :
    Ret Tryz.prog 15 ⟨[subS u 1 0 xs.length, v]⟩ w fun r w' => r = .bool true ∧ Grew w0.heap.size u w w' := by
  have hl4 : (xs ++ marksB).length = xs.length + 4 := by simp [marksB]
  have hlm : (bysC (xs ++ marksB)).length = xs.length + 4 := by rw [bysC_len, hl4]
  have hv1 := hv.to hx
  have hxz := hx.size
  refine ret_of_G Tryz.func15 rfl Tryz.ntmps15 rfl ?_
  simp only [argEnv]
  refine rn ?_
  rw [bysC_len]
  refine sAd tb ?_
  refine GL.cons (Step.sliceUp tb xs.length rfl (Op1.of rfl (by first | exact fun _ => rfl | exact fun h => h | exact fun h => bL h | exact fun h => bL (bL h) | exact fun h => bL (bL (bL h)))) (Op1.of rfl (by first | exact fun _ => rfl | exact fun h => h | exact fun h => bL h | exact fun h => bL (bL h) | exact fun h => bL (bL (bL h)))) rfl rfl ⟨_, ho.sli⟩ (fun _ => by rw [hlm]; omega) rfl ?_)
  refine rn ?_
  refine sByS tb ho.sli ?_
  refine rn ?_
  refine sByS tb hv1 ?_
  refine sCat tb ?_
  refine rn ?_
  have e : (xs ++ marksB = xs ++ [201, 202, 203, 204]) = True := by simp [marksB]
  rw [show decide (xs ++ marksB = xs ++ [201, 202, 203, 204]) = true from decide_eq_true (by rfl)]
  refine (G.loop (fun k : Nat => [(5, none, u), (6, none, .bool true), (7, none, .int .i64 k)]) (fun k w' => Grew w0.heap.size u w w' ∧ k ≤ xs.length + 4 ∧ ∃ ys, Owns w' w0.heap.size u 5 1 ys ∧ ys.length = xs.length + 4) (fun k => xs.length + 4 - k) 0 (by repeat (first | exact Sub.nil _ | refine Sub.cons rfl ?_)) ⟨Grew.refl _ _ _, by omega, _, ho, hlm⟩ ?_)
  rintro k w3 ⟨hg3, hk, ys, ho3, hxl⟩
  refine rn ?_
  first | refine G.condD rfl (fun hc => ?_) (fun hc => ?_) | refine G.condN rfl (fun hc => ?_) (fun hc => ?_) | refine G.cond rfl (fun hc => ?_) (fun hc => ?_)
  · have hlt : k < ys.length := by omega
    refine rn ?_
    refine sIa tb k ?_
    refine sStR tb (j := k) ho3 hlt ?_
    intro w5 ho5 hg5
    refine rn ?_
    refine sAd tb ?_
    refine rn ?_
    exact G.lp (k + 1) (by repeat (first | exact Sub.nil _ | refine Sub.cons rfl ?_)) ⟨hg3.trans hg5, by omega, _, ho5, by rw [List.length_set]; exact hxl⟩ (by omega)
  · refine rn ?_
    refine G.ret1 rfl rfl rfl rfl ?_
    exact ⟨rfl, hg3⟩

theorem spoilL_ok (v : Value) (xs : List (List Value)) (B : Nat) (w : World) (ho : Owns w B v 76 2 xs) (hl : xs.length ≤ 1000) (hB : B ≤ w.heap.size) :
    Ret Tryz.prog 18 ⟨[v]⟩ w fun _ w' => Grew B v w w' := by
  refine ret_of_G Tryz.func18 rfl Tryz.ntmps18 rfl ?_
  simp only [argEnv]
  refine rn ?_
  refine (G.loop (fun k : Nat => [(0, none, v), (2, none, .int .i64 k)]) (fun k W => Grew B v w W ∧ k ≤ xs.length ∧ ∃ ys, Owns W B v 76 2 ys ∧ ys.length = xs.length) (fun k => xs.length - k) 0 (by repeat (first | exact Sub.nil _ | refine Sub.cons rfl ?_)) ⟨Grew.refl _ _ _, by omega, xs, ho, rfl⟩ ?_)
  rintro k W ⟨hg, hk, ys, hn, hnl⟩
  have hgz := hg.size
  refine rn ?_
  rw [hnl]
  refine rn ?_
  first | refine G.condD rfl (fun hc => ?_) (fun hc => ?_) | refine G.condN rfl (fun hc => ?_) (fun hc => ?_) | refine G.cond rfl (fun hc => ?_) (fun hc => ?_)
  · have hlt : k < ys.length := by omega
    refine rn ?_
    refine sCall c38 (mark_ok 8 W (by omega) (by omega)) ?_
    rintro _ W1 ⟨rfl, hx1⟩
    have hn1 := hn.to hx1
    refine rn ?_
    refine sIa tb k ?_ (hj := fun _ => ⟨rfl, by omega⟩)
    refine sStR tb (j := k) hn1 (by omega) ?_ (vs := labC (markL 8)) (h1 := labC_one _)
    intro W2 hn2 hg2
    refine rn ?_
    refine sAd tb ?_
    refine rn ?_
    exact G.lp (k + 1) (by repeat (first | exact Sub.nil _ | refine Sub.cons rfl ?_)) ⟨hg.trans ((Grew.ofExt hx1 (by omega)).trans hg2), by omega, _, hn2, by rw [List.length_set]; exact hnl⟩ (by omega)
  · refine rn ?_
    refine (G.loop (fun x : Nat × Value => [(0, none, x.2), (3, none, .int .i64 x.1)]) (fun x W => Grew B v w W ∧ x.1 ≤ 10 ∧ (∀ W2, Grew B x.2 W W2 → Grew B v w W2) ∧ ∃ ys, Owns W B x.2 76 2 ys ∧ ys.length = xs.length + x.1) (fun x => 10 - x.1) (0, v) (by repeat (first | exact Sub.nil _ | refine Sub.cons rfl ?_))
      ⟨hg, by simp, fun W2 h => hg.trans h, _, hn, by simpa using hnl⟩ ?_)
    clear hg hn hnl hgz
    rintro ⟨j, s⟩ W ⟨hg, hj, hgo, ys, hy, hyl⟩
    simp only at hj hgo hy hyl ⊢
    have hgz := hg.size
    refine rn ?_
    first | refine G.condD rfl (fun hc => ?_) (fun hc => ?_) | refine G.condN rfl (fun hc => ?_) (fun hc => ?_) | refine G.cond rfl (fun hc => ?_) (fun hc => ?_)
    · refine rn ?_
      refine sCall c38 (mark_ok 7 W (by omega) (by omega)) ?_
      rintro _ W1 ⟨rfl, hx1⟩
      have hz1 := hx1.size
      refine sBs' tb [labC (markL 7)] ?_ (hkl := labLen [_])
      intro v1 W2 ho1 hs1 hx2
      have hx12 := hx1.trans hx2
      refine sApp2 tb (hy.to hx12) ho1.sli ?_ (h1 := lab1 [_])
      intro v2 W3 hy2 hg2 how
      have hg12 := (Grew.ofExt (u := s) hx12 (by omega)).trans hg2
      refine rn ?_
      refine sAd tb ?_
      refine rn ?_
      refine G.lp (x := (j, s)) (j + 1, v2) (by repeat (first | exact Sub.nil _ | refine Sub.cons rfl ?_)) ⟨hgo _ hg12, by simp only; omega, fun W3 h3 => ?_, _, hy2, by simp only [List.length_append, List.length_cons, List.length_nil]; omega⟩ (by simp only; omega)
      refine hgo _ ((Grew.ofExt (u := s) hx12 (by omega)).trans ?_)
      exact hg2.trans2 how h3
    · refine rn ?_
      exact G.end0 rfl rfl rfl hg

end Lab
end Go.Proofs.YtcngoccnfmhhnaaGreatDoor
end
section
open Go Go.Vg Go.RowKit Go.Proofs Go.Proofs.YtcngoccnfmhhnaaGreatDoor
namespace Go.Proofs.YtcngoccnfmhhnaaGreatDoor
open Go.Ex

theorem eqFam (x : Fam) (fs : Array Field) (h : tb.ty 74 = some (.struct fs)) (w : World) : (Op.eqFields 9999 ⟨famC x⟩ ⟨famC x⟩ fs.toList).run Tryz.prog w = .ok true w := by
  cases h
  have e : ∀ (s : List UInt8) w, (Op.equalIn 9999 9 (S s) (S s)).run Tryz.prog w = .ok true w := fun s w => by
    have := run_equalIn_string (P := Tryz.prog) w 9998 9 ⟨⟨s⟩⟩ ⟨⟨s⟩⟩ Lab.strT
    rw [toL, beqL, decide_eq_true rfl] at this
    exact this
  simp only [famC, Op.eqFields, part, Lab.strA, Sem.run_bind, Result.andThen_ok]
  simp [Lab.strA, e]
theorem families_ok (v u : Value) (l : List Fam) (w : World) (hv : Sli w v 3 (l.map famC)) (hu : Sli w u 3 (l.map famC)) :
    Ret Tryz.prog 17 ⟨[v, u]⟩ w fun r w' => r = .bool true ∧ Ext w w' := by
  have hbd := hv.bound
  rw [List.length_map] at hbd
  refine ret_of_G Tryz.func17 rfl Tryz.ntmps17 rfl ?_
  simp only [argEnv]
  refine rn ?_
  rw [show (!decide (((l.map famC).length : Int) = (l.map famC).length)) = false by simp]
  refine rn ?_
  refine (G.loop (fun k : Nat => [(0, none, v), (1, none, u), (5, none, .int .i64 k)]) (fun k w' => Ext w w' ∧ k ≤ l.length) (fun k => l.length - k) 0 (by repeat (first | exact Sub.nil _ | refine Sub.cons rfl ?_)) ⟨Ext.refl _, by omega⟩ ?_)
  rintro k w1 ⟨hx, hk⟩
  have hv1 := hv.to hx
  have hu1 := hu.to hx
  refine rn ?_
  rw [List.length_map]
  refine rn ?_
  first | refine G.condD rfl (fun hc => ?_) (fun hc => ?_) | refine G.condN rfl (fun hc => ?_) (fun hc => ?_) | refine G.cond rfl (fun hc => ?_) (fun hc => ?_)
  · have hlt : k < l.length := by omega
    obtain ⟨x, hxk⟩ : ∃ x, l[k]? = some x := ⟨_, List.getElem?_eq_getElem hlt⟩
    have hget : (l.map famC)[k]? = some (famC x) := by rw [List.getElem?_map, hxk]; rfl
    refine rn ?_
    refine G.regionM [(0, true), (1, true), (2, true), (3, true), (4, true), (5, true), (6, true), (7, true), (8, true)] (Ext w1) (by kernel_rfl) (by kernel_rfl) rfl mixed (Ext.drew w1) rfl ?_
    try (refine mm tb ?_); repeat ((first | refine dFa tb ?_ | refine dLd tb ?_ | refine dLa tb ?_ | refine dLen tb ?_ | refine dFd tb ?_ | refine dIa tb k ?_); try (refine mm tb ?_))
    refine GM.read (fun w' hS => Step.eqSt tb rfl (Op1.of rfl (by first | exact fun _ => rfl | exact fun h => h | exact fun h => bL h | exact fun h => bL (bL h) | exact fun h => bL (bL (bL h)))) (Op1.of rfl (by first | exact fun _ => rfl | exact fun h => h | exact fun h => bL h | exact fun h => bL (bL h) | exact fun h => bL (bL (bL h)))) rfl (by kernel_rfl) (by kernel_rfl) (eqFam x _ rfl) rfl (.inr rfl) ⟨rfl, rfl⟩) rfl rfl ?_
    refine GM.nil ?_
    refine rn ?_
    refine sAd tb ?_
    refine rn ?_
    exact G.lp (k + 1) (by repeat (first | exact Sub.nil _ | refine Sub.cons rfl ?_)) ⟨hx.trans (Ext.drew w1), by omega⟩ (by omega)
  · refine rn ?_
    refine G.ret1 rfl rfl rfl rfl ?_
    exact ⟨rfl, hx⟩
theorem newR_64 {ls : List Lab.Lab} : (Lab.newR ls).2.length ≤ 64 := by
  unfold Lab.newR
  split
  · split
    · simp
    · split
      · simp
      · show (Lab.foldN ls).1.length ≤ 64
        omega
  · simp
theorem lineR_64 {s : List UInt8} {a : LineS × List Lab.Lab} (h : lineR s = some a) : a.2.length ≤ 64 := by
  unfold lineR at h
  split at h
  · cases h
  · split at h
    · cases h
    · split at h
      · cases h
      · split at h
        · cases h; exact newR_64
        · cases h
theorem readR_all {α : Type} {metB : List UInt8 → Bool} {lineR : List UInt8 → Option α} {lim : Int} {P : α → Prop} (hP : ∀ y a, lineR y = some a → P a) : ∀ (ls : List (List UInt8)) (k : Nat) (st st' : RSt α), (∀ a ∈ st.smps, P a) → readR metB lineR lim k st ls = .ok st' → ∀ a ∈ st'.smps, P a
  | [], k, st, st', h, he => by cases he; exact h
  | s :: r, k, st, st', h, he => by
    simp only [readR] at he
    cases hs : stepR metB lineR lim st s with
    | error e => rw [hs] at he; cases he
    | ok q =>
      rw [hs] at he
      refine readR_all hP r (k + 1) q st' ?_ he
      unfold stepR at hs
      split at hs
      · cases hs; exact h
      · split at hs
        · split at hs
          · cases hs; exact h
          · split at hs
            · cases hs; exact h
            · cases hs
        · split at hs
          · cases hs
          · rename_i b hb
            split at hs
            · cases hs
            · cases hs
              intro a ha
              rcases List.mem_append.1 ha with ha | ha
              · exact h a ha
              · rw [List.mem_singleton.1 ha]; exact hP _ _ hb
theorem read_form {lim : Int} {s : List UInt8} {w w1 : World} {r : Value} (h : ReadS lim s w r w1) : ∃ (p q : Value) (n e : Int), r = .tuple ⟨[p, q, .int .i64 n, .int .i64 e]⟩ := by
  obtain ⟨_, ⟨lv, fv, l, fams, _, rfl, _⟩ | ⟨n, e, _, rfl⟩⟩ := h
  · exact ⟨_, _, _, _, rfl⟩
  · exact ⟨_, _, _, _, rfl⟩
/-- what is read of lines -/
def Rd2 (lim : Int) (s : List UInt8) (ls : List (LineS × List Lab.Lab)) : Prop := (∃ fams, rdR lim 1 ⟨[], []⟩ (linesP s) = .ok ⟨ls, fams⟩) ∨ (ls = [] ∧ ∃ p, rdR lim 1 ⟨[], []⟩ (linesP s) = .error p)
theorem third_same {lim : Int} {s : List UInt8} {w w1 : World} {r : Value} {ls : List (LineS × List Lab.Lab)} (h : ReadS lim s w r w1) (hd : Rd2 lim s ls) : ∃ (p q : Value) (n e : Int), r = .tuple ⟨[p, q, .int .i64 n, .int .i64 e]⟩ ∧ ∃ l : List Sm, LinS w1 w.heap.size p l ∧ l.map smP = ls := by
  obtain ⟨_, ⟨lv, fv, l, fams, h1, rfl, h2, _⟩ | ⟨n, e, h1, rfl⟩⟩ := h
  · rcases hd with ⟨fams', hd⟩ | ⟨_, p, hd⟩
    · rw [h1] at hd
      exact ⟨_, _, _, _, rfl, l, h2, congrArg RSt.smps (Except.ok.inj hd)⟩
    · rw [h1] at hd; cases hd
  · rcases hd with ⟨fams', hd⟩ | ⟨rfl, p, hd⟩
    · rw [h1] at hd; cases hd
    · exact ⟨_, _, _, _, rfl, [], ⟨Owns.nil _ _ _ _, by simp, by simp, by simp⟩, rfl⟩
/-- the same bytes read twice -/
theorem two_same {lim : Int} {s : List UInt8} {w w1 w' w2 : World} {r r' : Value} (h : ReadS lim s w r w1) (h' : ReadS lim s w' r' w2) : ∃ p q p' q' n e, r = .tuple ⟨[p, q, .int .i64 n, .int .i64 e]⟩ ∧ r' = .tuple ⟨[p', q', .int .i64 n, .int .i64 e]⟩ ∧ ∃ (l l' : List Sm) (fams : List Fam), LinS w1 w.heap.size p l ∧ LinS w2 w'.heap.size p' l' ∧ l.map smP = l'.map smP ∧ Rd2 lim s (l'.map smP) ∧ (∀ x ∈ l, x.out.length ≤ 64) ∧ Owns w1 w.heap.size q 74 3 (fams.map famC) ∧ Owns w2 w'.heap.size q' 74 3 (fams.map famC) := by
  obtain ⟨_, ⟨lv, fv, l, fams, h1, rfl, h2, h3⟩ | ⟨n, e, h1, rfl⟩⟩ := h
  · obtain ⟨_, ⟨lv', fv', l', fams', g1, rfl, g2, g3⟩ | ⟨n, e, g1, rfl⟩⟩ := h'
    · rw [h1] at g1
      have hh := Except.ok.inj g1
      have e1 : l.map smP = l'.map smP := congrArg RSt.smps hh
      have e2 : fams = fams' := congrArg RSt.fams hh
      subst e2
      have hall := readR_all (P := fun a => a.2.length ≤ 64) (fun y a => lineR_64) _ _ _ _ (by simp) h1
      refine ⟨_, _, _, _, _, _, rfl, rfl, l, l', fams, h2, g2, e1, .inl ⟨fams, by rw [← e1]; exact h1⟩, fun x hx => ?_, h3, g3⟩
      exact hall (smP x) (List.mem_map_of_mem hx)
    · rw [h1] at g1; cases g1
  · obtain ⟨_, ⟨lv', fv', l', fams', g1, rfl, g2, g3⟩ | ⟨n', e', g1, rfl⟩⟩ := h'
    · rw [h1] at g1; cases g1
    · rw [h1] at g1
      cases g1
      exact ⟨_, _, _, _, _, _, rfl, rfl, [], [], [], ⟨Owns.nil _ _ _ _, by simp, by simp, by simp⟩, ⟨Owns.nil _ _ _ _, by simp, by simp, by simp⟩, rfl, .inr ⟨rfl, _, h1⟩, by simp, Owns.nil _ _ _ _, Owns.nil _ _ _ _⟩
end Go.Proofs.YtcngoccnfmhhnaaGreatDoor
end
section
open Go Go.Vg Go.RowKit Go.Proofs Go.Proofs.YtcngoccnfmhhnaaGreatDoor
namespace Go.Proofs.YtcngoccnfmhhnaaGreatDoor
open Go.Ex

set_option maxHeartbeats 4000000 in
theorem read_law (v : Value) (xs : List UInt8) (lim : Int) (w : World) (hv : By w v xs) (hT : Tabs w) :
    Ret Tryz.prog 4 ⟨[v, .int .i64 lim]⟩ w fun r w' => r = .bool true ∧ Ext w w' := by
  refine ret_of_G Tryz.func4 rfl Tryz.ntmps4 rfl ?_
  simp only [argEnv]
  refine rn ?_
  refine sCall c7 (clip_ok v xs w hv) ?_
  rintro va w1' ⟨hva, hw⟩
  obtain rfl : w = w1' := hw.symm
  have ha := hva w hv
  have hal : (xs.take 1500).length ≤ 1500 := by rw [List.length_take]; omega
  generalize xs.take 1500 = a at ha hal
  clear hva hv
  have hln := linesP_len a
  refine rn ?_
  refine sCall c12 (Lab.lendB_ok va a w ha (by omega)) ?_
  rintro _ w1 ⟨u, rfl, hu1, hx1⟩
  have hlent : By w1 (subS u 1 0 a.length) a := by
    have := by_sub hu1.sli (i := 0) (j := a.length) (Nat.zero_le _) (by simp)
    simpa using this
  refine rn ?_
  refine sCall c13 (bodyR_ok w1 (subS u 1 0 a.length) a lim hlent (by omega) (fun z hz => by have := hln.2 z hz; omega) (hT.to hx1)) ?_
  rintro r1 w2 hr1
  have hx12 := hr1.1
  have hx2 := hx1.trans hx12
  refine rn ?_
  obtain ⟨p0, q0, n0, e0, rfl⟩ := read_form hr1
  refine rn ?_
  refine sCall c14 (rbody_ok w2 va a lim (ha.to hx2) (by omega)) ?_
  rintro r2 w3 hr2
  have hx23 := hr2.1
  have hx13 := hx12.trans hx23
  have hx3 := hx2.trans hx23
  obtain ⟨p, q, p', q', n, e, hp, rfl, l, l', fams, hl, hl', he, hrd, h64, hf, hf'⟩ := two_same hr1 hr2
  obtain ⟨rfl, rfl, rfl, rfl⟩ : p0 = p ∧ q0 = q ∧ n0 = n ∧ e0 = e := by
    simp only [Value.tuple.injEq, Array.mk.injEq, List.cons.injEq, Value.int.injEq, true_and, and_true] at hp
    exact hp
  clear hp hr1 hr2
  have hl3 := hl.to hx23
  have hf3 := hf.to hx23
  refine rn ?_
  refine sCall c15 (Lab.intactB_ok u va a w w3 ha (by omega) hx3 (hu1.to hx13)) ?_
  rintro _ w4 ⟨rfl, hg4⟩
  have hug : ∀ g, u.ownBlock = some g → g < w1.heap.size := fun g hg => (hu1.lt g hg).2
  have hz12 := hx12.size
  have hz23 := hx23.size
  have hx4 : Ext w w4 := Below.trans (B := w.heap.size) hx3 hg4.bl
  have hl4 : LinS w4 w1.heap.size p0 l := hl3.same (fun g hg => hg4.block g (hl3.ow.lt g hg).2 (fun e => by have := hug g e.symm; have := (hl3.ow.lt g hg).1; omega)) (fun x hx g hg => hg4.block g ((hl3.lo x hx).lt g hg).2 (fun e => by have := hug g e.symm; have := ((hl3.lo x hx).lt g hg).1; omega))
  have hl4' : LinS w4 w2.heap.size p' l' := hl'.same (fun g hg => hg4.block g (hl'.ow.lt g hg).2 (fun e => by have := hug g e.symm; have := (hl'.ow.lt g hg).1; omega)) (fun x hx g hg => hg4.block g ((hl'.lo x hx).lt g hg).2 (fun e => by have := hug g e.symm; have := ((hl'.lo x hx).lt g hg).1; omega))
  have hf4 := hf3.same (fun g hgl hg => hg4.block g hgl (fun e => by have := hug g e.symm; have := (hf3.lt g hg).1; omega))
  have hf4' := hf'.same (fun g hgl hg => hg4.block g hgl (fun e => by have := hug g e.symm; have := (hf'.lt g hg).1; omega))
  have hown : ∀ x ∈ l, ∀ g, x.v.ownBlock = some g → g < w2.heap.size := fun x hx g hg => ((hl.lo x hx).lt g hg).2
  have hownp : ∀ g, p0.ownBlock = some g → g < w2.heap.size := fun g hg => (hl.ow.lt g hg).2
  have hz34 := hg4.size
  clear hl hl' hf hf' hl3 hf3
  refine rn ?_
  refine sCallx c16 (fun hc => keepLines_ok p0 p' l l' w4 hl4.ow.sli hl4'.ow.sli (fun x hx => (hl4.lo x hx).sli) (fun x hx => (hl4'.lo x hx).sli) he) ?_
  intro w5 hx45
  have hx5 := hx4.trans hx45
  refine rn ?_
  refine sCallx c17 (fun hc => families_ok q0 q' fams w5 (hf4.to hx45).sli (hf4'.to hx45).sli) ?_
  intro w6 hx56
  have hx46 := hx45.trans hx56
  have hx6 := hx5.trans hx56
  have hl6 := hl4.to hx46
  have hl6' := hl4'.to hx46
  have hz46 := hx46.size
  refine rn ?_
  refine G.cond rfl (fun hc => ?_) (fun hc => ?_)
  · exfalso; simp at hc
  clear hc
  have hlm : (l.map smC).length = l.length := by simp
  have hB1 : w1.heap.size ≤ w6.heap.size := by omega
  have hw1 := hx1.size
  refine rn ?_
  refine (G.loop (fun k : Nat => [(0, none, va), (1, none, .int .i64 lim), (6, none, p0), (10, none, p'), (14, none, .int .i64 k)]) (fun k W => Ext w W ∧ w6.heap.size ≤ W.heap.size ∧ k ≤ l.length ∧ Owns W w1.heap.size p0 44 4 (l.map smC) ∧ (∀ x ∈ l.drop k, Lab.LO W w1.heap.size x.v x.out) ∧ LinS W w2.heap.size p' l') (fun k => l.length - k) 0 (by repeat (first | exact Sub.nil _ | refine Sub.cons rfl ?_)) ⟨hx6, Nat.le_refl _, Nat.zero_le _, hl6.ow, fun x hx => hl6.lo x (by simpa using hx), hl6'⟩ ?_)
  have hne := hl6.ne
  have hdj := hl6.dj
  clear hl4 hl4' hl6 hl6' hf4 hf4' hg4 hx45 hx56 hx46 hx4 hx5 hlent hu1
  rintro k W ⟨hx, hz, hk, hpo, hlo, hl'⟩
  have hps := hpo.sli
  have hlb := hps.bound
  rw [hlm] at hlb
  refine rn ?_
  first | refine G.condD rfl (fun hc => ?_) (fun hc => ?_) | refine G.condN rfl (fun hc => ?_) (fun hc => ?_) | refine G.cond rfl (fun hc => ?_) (fun hc => ?_)
  · have hlt : k < l.length := by omega
    obtain ⟨y, hy⟩ : ∃ y, l[k]? = some y := ⟨_, List.getElem?_eq_getElem hlt⟩
    have hym := List.mem_of_getElem? hy
    have hget : (l.map smC)[k]? = some (smC y) := by rw [List.getElem?_map, hy]; rfl
    have hdr : l.drop k = y :: l.drop (k + 1) := by
      obtain ⟨h1, rfl⟩ := List.getElem?_eq_some_iff.1 hy
      exact List.drop_eq_getElem_cons h1
    have hyo := hlo y (by rw [hdr]; exact List.mem_cons_self ..)
    have h64y := h64 y hym
    unfold smC linC at hget
    refine rn ?_
    refine sIa tb k ?_ (hs := fun _ => ⟨_, hps⟩) (hj := fun _ => ⟨rfl, by rw [hlm]; exact hlt⟩)
    refine rn ?_
    refine sCall c18 (Lab.spoilL_ok y.v (y.out.map Lab.labC) w1.heap.size W hyo (by rw [List.length_map]; omega) (by omega)) ?_
    rintro _ W1 hg
    have hyg : ∀ g, y.v.ownBlock = some g → g < w2.heap.size := hown y hym
    have hdjy : ∀ x ∈ l.drop (k + 1), ∀ g, y.v.ownBlock = some g → x.v.ownBlock ≠ some g := by
      have h1 : (l.drop k).Pairwise fun x y => ∀ g, x.v.ownBlock = some g → y.v.ownBlock ≠ some g := hdj.sublist (List.drop_sublist _ _)
      rw [hdr] at h1
      exact fun x hx => (List.pairwise_cons.1 h1).1 x hx
    refine rn ?_
    refine sAd tb ?_
    refine rn ?_
    refine G.lp (x := k) (k + 1) (by repeat (first | exact Sub.nil _ | refine Sub.cons rfl ?_)) ⟨Below.trans (B := w.heap.size) hx (hg.bl.mono (by omega)), Nat.le_trans hz hg.size, hlt, ?_, fun x hx => ?_, ?_⟩ (by omega)
    · exact hpo.same fun g hgl e => hg.block g hgl (fun e2 => hne y hym g e2.symm e)
    · exact (hlo x (by rw [hdr]; exact List.mem_cons_of_mem _ hx)).same fun g hgl e => hg.block g hgl (fun e2 => hdjy x hx g e2.symm e)
    · exact hl'.same (fun g e => hg.block g (hl'.ow.lt g e).2 (fun e2 => by have := hyg g e2.symm; have := (hl'.ow.lt g e).1; omega)) (fun x hx g e => hg.block g ((hl'.lo x hx).lt g e).2 (fun e2 => by have := hyg g e2.symm; have := ((hl'.lo x hx).lt g e).1; omega))
  · refine rn ?_
    refine sCall c13 (bodyR_ok W va a lim (ha.to hx) (by omega) (fun z hz => by have := hln.2 z hz; omega) (hT.to hx)) ?_
    rintro r3 W1 hr3
    have hx1' := hr3.1
    have hxW1 := hx.trans hx1'
    have hlW := hl'.to hx1'
    obtain ⟨p3, q3, n3, e3, rfl, l3, hl3, he3⟩ := third_same hr3 hrd
    refine rn ?_
    refine sCall c16 (keepLines_ok p3 p' l3 l' W1 hl3.ow.sli hlW.ow.sli (fun x hx => (hl3.lo x hx).sli) (fun x hx => (hlW.lo x hx).sli) he3) ?_
    rintro _ W2 ⟨rfl, hx2'⟩
    refine rn ?_
    refine sCallx c11 (fun hc => wakes_ok W2 ((hT.to hxW1).to hx2')) ?_
    intro W3 hx3'
    refine rn ?_
    refine G.ret1 rfl rfl rfl rfl ?_
    exact ⟨rfl, (hxW1.trans hx2').trans hx3'⟩
end Go.Proofs.YtcngoccnfmhhnaaGreatDoor
end
section
open Go Go.Vg Go.RowKit Go.Proofs Go.Proofs.YtcngoccnfmhhnaaGreatDoor
namespace Go.Proofs.YtcngoccnfmhhnaaGreatDoor
open Go.Lib Go.Shelf Go.ChangeShapes Go.WideShapes Go.ChangeAt

theorem own : ownKnob Tryz.prog.godebug = none := by kernel_rfl
theorem laidOut : laidOutB Tryz.prog = true := by kernel_rfl
def laidL : List (String × DataW Unit) := [("unicode/utf8.acceptRanges", Rows.laid_unicode_utf8_acceptRanges), ("unicode/utf8.first", Rows.laid_unicode_utf8_first)]
theorem acc_eq : Rows.laid_unicode_utf8_acceptRanges (H := Unit) = Lib.acceptData := by kernel_rfl
theorem laidL_eq : laidL = [("unicode/utf8.acceptRanges", Lib.acceptData), ("unicode/utf8.first", Lib.firstData)] := by
  unfold laidL Rows.laid_unicode_utf8_first
  rw [acc_eq, Pinned.utf8First_eq]
theorem tabs {W : World} (hL : laidMetH Tryz.prog laidL W) : Tabs W := by
  rw [laidL_eq] at hL
  exact utf8Tabs_of_readsT (U8Types.of196 Tryz.laysValid) ⟨by kernel_rfl, by kernel_rfl, by kernel_rfl, by kernel_rfl, by kernel_rfl, by kernel_rfl, by kernel_rfl⟩ (Lib.laidMet.reads hL (.tail _ (.head _))) (Lib.laidMet.reads hL (.head _))

/-- a world that holds the tables -/
noncomputable def laidWorld (os : Os) : World :=
  let w0 := World.holding Tryz.prog os ⟨#[], #[], []⟩
  let put (h : Array Obj) (g : Nat) (cs : Array Value) : Array Obj := h.modify g fun
    | .cells _ t frozen => .cells cs t frozen
    | o => o
  let h1 := put w0.heap 2 (Lib.firstTab.map fun z => Value.int .u8 z).toArray
  let h2 := put h1 3 ((List.range 16).flatMap fun i => [Value.int .u8 (Lib.accLo i), Value.int .u8 (Lib.accHi i)]).toArray
  { w0 with heap := h2 }
set_option maxRecDepth 100000 in
theorem laid_met (os : Os) (args : Array Value) : laidMet Tryz.prog laidL ((laidWorld os).forCall (fun _ _ => 0) ⟨#[], args, []⟩).memory := by
  rewrite [laidL_eq]
  exact (LaidIn.of_run (l := [("unicode/utf8.acceptRanges", Lib.acceptData), ("unicode/utf8.first", Lib.firstData)]) [2, 3] 8 (by kernel_rfl) (by kernel_rfl) (by kernel_rfl) (by kernel_rfl)).met

/-- bytes that came in -/
theorem open_bys {H : Type} {enc : TypeId × Value → H} {w : World} {sp : Nat → Bool} {hd : Bool} {b : Nat} {v : Value} {d : DataW H} {p : List MemPlace}
    (hval : OkW Tryz.prog w b 22 v) (h : DataW.Trod enc Tryz.prog w 0 sp hd 22 v d p) : ∃ l : List UInt8, By w v l ∧ ∀ x ∈ l, True := by
  refine open_rows (t := 22) (e := 5) (fun c => [U c]) (fun _ => True) (tb.ok _ _ rfl) (by kernel_rfl) (fun n cs x hx => ?_) hval h
  obtain ⟨m, rfl, hm⟩ := open_int1 (tb.ok _ _ rfl) hx
  have := wf_u8 hm
  have e : ((UInt8.ofNat m.toNat).toNat : Int) = m := by
    have h1 : m.toNat < 256 := by omega
    rw [UInt8.toNat_ofNat_of_lt' h1]; omega
  refine ⟨UInt8.ofNat m.toNat, ?_, trivial⟩
  simp only [U, e]
end Go.Proofs.YtcngoccnfmhhnaaGreatDoor
end
section
open Go Go.Vg Go.RowKit Go.Proofs Go.Proofs.YtcngoccnfmhhnaaGreatDoor
namespace Go.Proofs.YtcngoccnfmhhnaaGreatDoor
open Go.Lib Go.Shelf Go.ChangeShapes Go.WideShapes Go.ChangeAt

set_option maxRecDepth 100000 in
theorem contract_expoRead (H : Type) (enc : TypeId × Value → H) (W : World) (base : Nat) (args : Array Value) (ds gs : List (DataW H)) (before : List MemPlace)
    (hval : ∀ (j : Nat) t v, Tryz.f4.params[j]? = some t → args[j]? = some v → Value.okWide Tryz.prog W .any base t v)
    (hW : DataW.Whole enc Tryz.prog Tryz.f4.params.toList Rows.expoReadSpec.vars false W args.toList ds gs before) (hL : laidMetH Tryz.prog Rows.expoReadRow.laid W) :
    Calls Tryz.prog 4 args W fun e W' => ∃ v, e = .returned v ∧ Rows.expoReadSpec.post enc Tryz.prog Tryz.f4 false true false false W args v W' := by
  have hW' := hW
  obtain ⟨p, q, hA0, hV, rfl, hfz, hnd⟩ := hW
  have hA : DataW.TrodAll enc Tryz.prog W 0 (fun _ => true) true Tryz.f4.params.toList args.toList ds p := hA0
  rw [Tryz.params4] at hA hval
  obtain ⟨v0, vs0, d0, ds0, p0, q0, hargs, rfl, rfl, h0, r0⟩ := trodAll_cons hA
  obtain ⟨v1, vs1, d1, ds1, p1, q1, rfl, rfl, rfl, h1, r1⟩ := trodAll_cons r0
  obtain ⟨rfl, rfl, rfl⟩ := trodAll_nil r1
  obtain rfl : args = #[v0, v1] := by cases args; simp_all
  have k0 := OkW.mk (hval 0 _ v0 rfl rfl)
  have k1 := OkW.mk (hval 1 _ v1 rfl rfl)
  obtain ⟨x0, hx0, hz0⟩ := open_bys k0 h0
  obtain ⟨n1, rfl, hn1⟩ := openI (tb.ok _ _ rfl) k1 h1
  refine Calls.mono (read_law v0 x0 n1 W hx0 (tabs hL)) ?_
  rintro e W' ⟨v, rfl, rfl, hx⟩
  exact ⟨_, rfl, law_post laidOut (by kernel_rfl) (tb := 4) rfl (tb.ok _ _ rfl) rfl hW' rfl hx⟩
theorem reads_expoRead (os : Os) {H : Type} (enc : TypeId × Value → H) : ∃ places, DataW.whole enc Tryz.prog ((laidWorld os).forCall (fun _ _ => 0) ⟨#[], #[.slice none 0 0, .int .i64 0], []⟩).memory Tryz.f4.params.toList Rows.expoReadSpec.vars false #[.slice none 0 0, .int .i64 0].toList 8 = some ([.nil, .lit (.int .i64 0)], [], places) :=
  ⟨[], by kernel_rfl⟩
set_option maxRecDepth 100000 in
theorem lifted_expoRead (os : Os) (started : os.Started) (H : Type) (enc : TypeId × Value → H) (F : Stop.Interp) :
    ReturnsInHanded {} Tryz.checked os 4 .any ((OpenSpec.ofChange Rows.expoReadSpec).preRow enc Tryz.prog Tryz.f4 Rows.expoReadRow.domain false Rows.expoReadRow.laid) (((OpenSpec.ofChange Rows.expoReadSpec).at F).post enc Tryz.prog Tryz.f4 false true false false) := by
  obtain ⟨places, hx⟩ := reads_expoRead os enc
  refine returnsInHanded_of_row (C := Tryz.checked) (s := OpenSpec.ofChange Rows.expoReadSpec) own started (by kernel_rfl) Tryz.func4
    (witness_row_at (enc := enc) (C := Tryz.checked) false (laidWorld os) #[.slice none 0 0, .int .i64 0] rfl (by kernel_rfl) (by kernel_rfl) (by kernel_rfl)
      (OpenSpec.preRow_of_cond 8 hx (by kernel_rfl) (fun k hk => by cases hk) (by kernel_rfl) (laid_met os _))) ?_
  intro W base args ds gs before hval hW _ _ _ hL _ _
  exact contract_expoRead H enc W base args ds gs before hval hW hL
theorem said_expoRead : Rows.ExpoReadSaid :=
  OpenClaim.holds_of_cond 4 Tryz.f4 rfl rfl rfl rfl rfl rfl rfl ⟨rfl, rfl, rfl, rfl, rfl⟩ rfl rfl rfl rfl rfl (by kernel_rfl) Tryz.func4 (by kernel_rfl)
    (of_decide_eq_true (by kernel_rfl)) (by unfold Func.isWrapper; first | (rw [if_pos (by decide +kernel)]; kernel_rfl) | (rw [if_neg (by decide +kernel)]; exact ⟨rfl, rfl⟩))
    (fun os started H enc _ F => by rw [OpenClaim.pre_eq_preRow]; exact lifted_expoRead os started H enc F)
theorem plain_expoRead (f : FuncId) (fn : Func) (hf : Tryz.pinned.checked.prog.funcNamed "vigil/vigillaw11.ExpoRead" = some f) (hfn : Tryz.pinned.checked.prog.funcs[f]? = some fn) :
    true = Tryz.pinned.checked.prog.looks [] ∧ ∀ (j : Nat) t, fn.params[j]? = some t → Tryz.pinned.checked.prog.wantsStandIn t = false := by
  obtain rfl : f = 4 := Option.some.inj ((show Tryz.prog.funcNamed "vigil/vigillaw11.ExpoRead" = some 4 by kernel_rfl).symm.trans hf) |>.symm
  obtain rfl : fn = Tryz.f4 := (Option.some.inj (Tryz.func4.symm.trans hfn)).symm
  refine ⟨by kernel_rfl, fun j t ht => ?_⟩
  rw [Tryz.params4] at ht
  have hm : t ∈ #[22, 3] := Array.mem_of_getElem? ht
  simp only [List.mem_toArray, List.mem_cons, List.not_mem_nil, or_false] at hm
  rcases hm with rfl | rfl
  · exact (show Tryz.prog.wantsStandIn 22 = false by kernel_rfl)
  · exact (show Tryz.prog.wantsStandIn 3 = false by kernel_rfl)
/-- whatever the bytes and the limit, the law of a body read returns true and leaves what came in alone -/
theorem ExpoRead_holds : Rows.ExpoReadCardSaid :=
  Claim7.holds_tied_plain_at .later [] _ _ _ _ said_expoRead (fun _ h => by cases h) (by kernel_rfl) (fun _ h => by cases h) expoRead_row_tie rfl ⟨rfl, rfl⟩ (by kernel_rfl) rfl plain_expoRead (by kernel_rfl)
end Go.Proofs.YtcngoccnfmhhnaaGreatDoor
end
