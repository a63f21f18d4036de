/- Part of the proof of a statement about the given program. -/
import Derived.Test.YtcngoccnfmhhnaaGreatDoorP03
import Derived.Lib.ValidLaws
import Derived.Shelf.Unicode.DecodeSlow
import Derived.Shelf.Strings.Builder1
import Derived.Test.YtcngoccnfmhhnaaGreatDoorProg
import Derived.Shelf.Strings.Builder2
import Derived.Shelf.Strings.OnBuilder
import Derived.Shelf.Strings.Search1
import Derived.Shelf.Strings.Search2
import Derived.Shelf.Strings.Cut
import Derived.Shelf.Strings.Prefix
import Derived.Shelf.Unicode.ValidAny
import Derived.Shelf.Strings.BuilderF
import Derived.Shelf.SlSortCmp.NoneTotal
import Derived.Ground.SlsfProg
set_option linter.unusedSimpArgs false
set_option linter.unusedVariables false
set_option linter.unusedSectionVars false
section
open Go Go.Vg Go.RowKit Go.Proofs Go.Proofs.YtcngoccnfmhhnaaGreatDoor
namespace Go.Proofs.YtcngoccnfmhhnaaGreatDoor
open Go.Nm

theorem lowB_nat (c : UInt8) : ((lowB c).toNat : Int) = if 65 ≤ c.toNat ∧ c.toNat ≤ 90 then (c.toNat : Int) + 32 else c.toNat := by
  unfold lowB
  split
  · rename_i h
    rw [UInt8.toNat_add]
    have : (32 : UInt8).toNat = 32 := rfl
    rw [this]
    omega
  · rfl
theorem set_mid {α : Type} (A D : List α) (x y : α) {i : Nat} (hA : A.length = i) : (A ++ x :: D).set i y = (A ++ [y]) ++ D := by
  subst hA
  rw [List.set_append_right _ _ (Nat.le_refl _), Nat.sub_self, List.set_cons_zero, List.append_assoc]; rfl
set_option maxHeartbeats 1000000 in
theorem small_ok (s : List UInt8) (w : World) (hs : s.length ≤ 1000000) : Ret Tryz.prog 161 ⟨[S s]⟩ w fun r w' => r = S (s.map lowB) ∧ Ext w w' := by
  refine ret_of_G Tryz.func161 rfl Tryz.ntmps161 rfl ?_
  simp only [argEnv]
  refine rn ?_
  refine GL.cons (Step.strBytesF tb rfl (Op1.of rfl (fun _ => rfl)) rfl rfl rfl rfl ?_)
  intro v W1 hf1 hx1
  have hby1 := hf1.sli (by omega)
  have hsl1 : Sli W1 v 1 (bysC s) := hby1
  refine rn ?_
  rw [bysC_len]
  refine (G.loop (fun i : Nat => [(3, none, v), (8, none, v), (9, none, .int .i64 s.length), (10, none, .int .i64 i)]) (fun i W => Ext w W ∧ Frz W w.heap.size v 5 ((s.take i).map lowB ++ s.drop i) ∧ i ≤ s.length) (fun i => s.length - i) 0 (by repeat (first | exact Sub.nil _ | refine Sub.cons rfl ?_)) ⟨hx1, by simpa using hf1, Nat.zero_le _⟩ ?_)
  clear hf1 hx1 hby1 hsl1
  rintro i W ⟨hx, hf, hi⟩
  have hlen : ((s.take i).map lowB ++ s.drop i).length = s.length := by rw [List.length_append, List.length_map, List.length_take, List.length_drop]; omega
  have hby := hf.sli (by rw [hlen]; omega)
  have hsl : Sli W v 1 (bysC ((s.take i).map lowB ++ s.drop i)) := hby
  refine rn ?_
  first | refine G.condD rfl (fun hc => ?_) (fun hc => ?_) | refine G.condN rfl (fun hc => ?_) (fun hc => ?_) | refine G.cond rfl (fun hc => ?_) (fun hc => ?_)
  · have hlt : i < s.length := by omega
    have hdr : s.drop i = s[i] :: s.drop (i + 1) := List.drop_eq_getElem_cons hlt
    have htk : s.take (i + 1) = s.take i ++ [s[i]] := List.take_succ_eq_append_getElem hlt
    have htl : ((s.take i).map lowB).length = i := by rw [List.length_map, List.length_take]; omega
    generalize s[i] = c at hdr htk
    rw [hdr] at hf hsl hlen
    have hget : (bysC ((s.take i).map lowB ++ c :: s.drop (i + 1)))[i]? = some [U c] := by
      unfold bysC
      rw [List.getElem?_map, List.getElem?_append_right (by omega), htl, Nat.sub_self]; rfl
    have hlow := lowB_nat c
    refine rn ?_
    refine sIa tb i ?_ (hj := fun _ => ⟨rfl, by rw [bysC_len, hlen]; exact hlt⟩)
    refine rn ?_
    have hce : (decide ((65 : Int) ≤ (c.toNat : Int)) && decide ((c.toNat : Int) ≤ 90)) = decide (65 ≤ c.toNat ∧ c.toNat ≤ 90) := by
      rw [Bool.eq_iff_iff]
      simp only [Bool.and_eq_true, decide_eq_true_eq]
      omega
    rw [hce]
    by_cases hup : 65 ≤ c.toNat ∧ c.toNat ≤ 90
    · rw [decide_eq_true hup]
      rw [if_pos hup] at hlow
      refine rn ?_
      refine GL.cons (Step.arith (k := .u8) (a := (c.toNat : Int)) (b := 97) (r := (c.toNat : Int) + 97) rfl (Op1.of rfl (by first | exact fun _ => rfl | exact fun h => h | exact fun h => bL h | exact fun h => bL (bL h) | exact fun h => bL (bL (bL h)))) (Op1.of rfl (by first | exact fun _ => rfl | exact fun h => h | exact fun h => bL h | exact fun h => bL (bL h) | exact fun h => bL (bL (bL h)))) ((Go.Vg.wrap_u8 _).trans (by omega)) rfl ?_)
      refine GL.cons (Step.arith (k := .u8) (a := (c.toNat : Int) + 97) (b := 65) (r := ((lowB c).toNat : Int)) rfl (Op1.of rfl (by first | exact fun _ => rfl | exact fun h => h | exact fun h => bL h | exact fun h => bL (bL h) | exact fun h => bL (bL (bL h)))) (Op1.of rfl (by first | exact fun _ => rfl | exact fun h => h | exact fun h => bL h | exact fun h => bL (bL h) | exact fun h => bL (bL (bL h)))) ((Go.Vg.wrap_u8 _).trans (by omega)) rfl ?_)
      refine sIa tb i ?_ (hj := fun _ => ⟨rfl, by rw [bysC_len, hlen]; exact hlt⟩)
      refine GL.cons (Step.storeF tb (u := lowB c) rfl (Op1.of rfl (fun _ => rfl)) (Op1.of rfl (fun _ => rfl)) rfl hf (by rw [hlen]; exact hlt) ?_)
      intro W2 hf2 hb2
      refine rn ?_
      refine sAd tb (r := ((i + 1 : Nat) : Int)) ?_
      refine rn ?_
      refine G.lp (x := i) (i + 1) (by repeat (first | exact Sub.nil _ | refine Sub.cons rfl ?_)) ⟨Below.trans hx hb2, ?_, by omega⟩ (by omega)
      rw [set_mid _ _ _ _ htl] at hf2
      rw [htk, List.map_append]
      exact hf2
    · rw [decide_eq_false hup]
      have hlc : lowB c = c := by unfold lowB; rw [if_neg hup]
      refine rn ?_
      refine sAd tb (r := ((i + 1 : Nat) : Int)) ?_
      refine rn ?_
      refine G.lp (x := i) (i + 1) (by repeat (first | exact Sub.nil _ | refine Sub.cons rfl ?_)) ⟨hx, ?_, by omega⟩ (by omega)
      rw [htk, List.map_append, List.map_cons, List.map_nil, hlc, List.append_assoc]
      exact hf
  · have hie : i = s.length := by omega
    subst hie
    rw [List.take_length, List.drop_length, List.append_nil] at hf hby
    refine rn ?_
    refine sByS tb hby ?_
    refine rn ?_
    refine G.ret1 rfl rfl rfl rfl ?_
    exact ⟨rfl, hx⟩
/-- what read tells -/
def ReadR (s : List UInt8) (r : Value) : Prop := ∃ (ds : List UInt8) (x : Int) (ok : Bool), r = .tuple ⟨[.agg ⟨[S ds, .int .i64 x]⟩, .bool ok]⟩ ∧ ((ok = true ∧ readP s = some (ds, x)) ∨ (ok = false ∧ readP s = none))
set_option maxHeartbeats 4000000 in
theorem read_ok (s : List UInt8) (w : World) (hs : s.length ≤ 400) : Ret Tryz.prog 162 ⟨[S s]⟩ w fun r w' => ReadR s r ∧ Ext w w' := by
  have hrn := runD_le s
  refine ret_of_G Tryz.func162 rfl Tryz.ntmps162 rfl ?_
  simp only [argEnv]
  refine rn ?_
  refine sAl tb (us := [S [], .int .i64 0]) (fun W1 hb2 hs1 hx1 => ?_)
  refine rn ?_
  refine sCall c165 (run_ok s W1 (by omega)) ?_
  rintro _ W2 ⟨rfl, hx2⟩
  have hb2 := hb2.to hx2
  have hx02 := hx1.trans hx2
  refine rn ?_
  refine GL.cons (Step.sliceSh tb (runD s) rfl (Op1.of rfl (by first | exact fun _ => rfl | exact fun h => h | exact fun h => bL h | exact fun h => bL (bL h) | exact fun h => bL (bL (bL h)))) (Op1.of rfl (by first | exact fun _ => rfl | exact fun h => h | exact fun h => bL h | exact fun h => bL (bL h) | exact fun h => bL (bL (bL h)))) rfl (fun _ => ⟨rfl, hrn⟩) rfl ?_)
  refine rn ?_
  refine sAl tb (us := [S [], .int .i64 0]) (fun W3 hb5 hs3 hx3 => ?_)
  refine rn ?_
  refine sSt tb (vs := [S (s.take (runD s)), .int .i64 0]) (fun W4 hb5 hw4 => ?_)
  have hx4 : Ext W2 W4 := Below.wr hx3 hw4 (Nat.le_refl _)
  have hx04 := hx02.trans hx4
  have hb2 := hb2.to hx4
  obtain ⟨b5, hb5e⟩ : ∃ b, b = W2.heap.size := ⟨_, rfl⟩
  have hlt2 : w.heap.size < b5 := by have := hx2.size; omega
  rw [← hb5e] at hb5 ⊢
  clear hb5e hx4 hw4 hs3 hx3 hx02 hx2 hx1 hs1
  refine rn ?_
  refine GL.cons (Step.sliceSl tb (runD s) rfl (Op1.of rfl (by first | exact fun _ => rfl | exact fun h => h | exact fun h => bL h | exact fun h => bL (bL h) | exact fun h => bL (bL (bL h)))) (Op1.of rfl (by first | exact fun _ => rfl | exact fun h => h | exact fun h => bL h | exact fun h => bL (bL h) | exact fun h => bL (bL (bL h)))) rfl (fun _ => ⟨rfl, hrn⟩) rfl ?_)
  refine rn ?_
  refine sCall c177 (hasP_ok (s.drop (runD s)) 46 _ (by rw [List.length_drop]; omega)) ?_
  rintro _ W5 ⟨rfl, hW5⟩
  subst hW5
  refine rn ?_
  have hsl := split_len s
  refine G.join (fun _ : Unit => [(0, none, S (splitP s).2.2), (2, none, ptr w.heap.size), (5, none, ptr b5)]) (fun _ W' => Ext w W' ∧ Bx W' w.heap.size [S [], .int .i64 0] ∧ Bx W' b5 [S (splitP s).1, .int .i64 (-((splitP s).2.1 : Nat))]) ?_ ?_
  rotate_left
  · unfold splitP
    by_cases hdot : (s.drop (runD s)).head? = some 46
    · rw [decide_eq_true hdot, if_pos hdot]
      have hpos : 0 < (s.drop (runD s)).length := by
        apply List.length_pos_iff.2
        intro h; rw [h] at hdot; simp at hdot
      rw [List.length_drop] at hpos
      have hr2 := runD_le ((s.drop (runD s)).drop 1)
      obtain ⟨u, hu⟩ : ∃ u, u = (s.drop (runD s)).drop 1 := ⟨_, rfl⟩
      have hul : u.length = s.length - runD s - 1 := by rw [hu, List.length_drop, List.length_drop]
      rw [← hu] at hr2 ⊢
      simp only
      refine rn ?_
      refine GL.cons (Step.sliceSl tb 1 rfl (Op1.of rfl (by first | exact fun _ => rfl | exact fun h => h | exact fun h => bL h | exact fun h => bL (bL h) | exact fun h => bL (bL (bL h)))) (Op1.of rfl (by first | exact fun _ => rfl | exact fun h => h | exact fun h => bL h | exact fun h => bL (bL h) | exact fun h => bL (bL (bL h)))) rfl (fun _ => ⟨rfl, by rw [List.length_drop]; omega⟩) rfl ?_)
      rw [← hu]
      refine rn ?_
      refine sCall c165 (run_ok u _ (by omega)) ?_
      rintro _ W6 ⟨rfl, hx6⟩
      have hb5 := hb5.to hx6
      have hb2 := hb2.to hx6
      have hx06 := hx04.trans hx6
      refine rn ?_
      refine G.regionZ 8 [(0, true), (1, true), (2, true), (3, true), (4, true), (5, true), (6, true), (7, true)] (fun w' => Bx w' b5 [S (s.take (runD s)), .int .i64 0]) (by kernel_rfl) (by kernel_rfl) rfl mixed (hb5.to (Ext.drew W6)) rfl rfl ?_
      refine rd ?_
      refine dLd tb (u := S (s.take (runD s))) ?_ (hc := fun w' hS _ => Bx.c0 hS (by exact rfl))
      refine rd ?_
      refine dAd tb (r := ((1 + runD u : Nat) : Int)) ?_ (hp := (wrap_i64 (n := 1 + ((runD u : Nat) : Int)) (by omega) (by omega)).trans (by omega))
      refine GM.read (fun w' hS => Step.sliceS tb 1 (1 + runD u) rfl (Op1.of rfl (by first | exact fun _ => rfl | exact fun h => h | exact fun h => bL h | exact fun h => bL (bL h) | exact fun h => bL (bL (bL h)))) (Op1.of rfl (by first | exact fun _ => rfl | exact fun h => h | exact fun h => bL h | exact fun h => bL (bL h) | exact fun h => bL (bL (bL h)))) (Op1.of rfl (by first | exact fun _ => rfl | exact fun h => h | exact fun h => bL h | exact fun h => bL (bL h) | exact fun h => bL (bL (bL h)))) rfl (fun _ => ⟨rfl, rfl, by omega, by rw [List.length_drop]; omega⟩) rfl ⟨rfl, rfl⟩) rfl rfl ?_
      rw [← hu, show 1 + runD u - 1 = runD u by omega]
      refine dCat tb ?_ (hk := fun _ => by rw [List.length_take, List.length_take]; omega)
      refine rd ?_
      refine GM.nil ?_
      have hb5' := hb5.to (Ext.drew W6)
      refine zSf tb (fun W7 hb7 hw7 => ?_)
      have hx7 : Ext w W7 := Below.wr (hx06.trans (Ext.drew W6)) hw7 (by omega)
      have hb2 := (hb2.to (Ext.drew W6)).wr hw7 (by omega)
      refine rn ?_
      refine sNeg ?_ (hr := wrap_i64 (by omega) (by omega))
      refine rn ?_
      refine sSf tb (fun W8 hb8 hw8 => ?_)
      have hx8 : Ext w W8 := Below.wr hx7 hw8 (by omega)
      have hb2 := hb2.wr hw8 (by omega)
      refine rn ?_
      refine sAd tb (r := ((1 + runD u : Nat) : Int)) ?_ (hp := (wrap_i64 (n := 1 + ((runD u : Nat) : Int)) (by omega) (by omega)).trans (by omega))
      refine GL.cons (Step.sliceSl tb (1 + runD u) rfl (Op1.of rfl (by first | exact fun _ => rfl | exact fun h => h | exact fun h => bL h | exact fun h => bL (bL h) | exact fun h => bL (bL (bL h)))) (Op1.of rfl (by first | exact fun _ => rfl | exact fun h => h | exact fun h => bL h | exact fun h => bL (bL h) | exact fun h => bL (bL (bL h)))) rfl (fun _ => ⟨rfl, by rw [List.length_drop]; omega⟩) rfl ?_)
      refine rn ?_
      have hb8 : Bx W8 b5 [S (s.take (runD s) ++ u.take (runD u)), .int .i64 (0 - ((runD u : Nat) : Int))] := hb8
      rw [Int.zero_sub] at hb8
      rw [← List.drop_drop, ← hu]
      exact G.met () (by repeat (first | exact Sub.nil _ | refine Sub.cons rfl ?_)) ⟨hx8, hb2, hb8⟩
    · rw [decide_eq_false hdot, if_neg hdot]
      refine rn ?_
      exact G.met () (by repeat (first | exact Sub.nil _ | refine Sub.cons rfl ?_)) ⟨hx04, hb2, hb5⟩
  obtain ⟨dg, kk, rest, hsp⟩ : ∃ dg kk rest, splitP s = (dg, kk, rest) := ⟨_, _, _, rfl⟩
  have hkk : kk ≤ s.length := by rw [hsp] at hsl; simp only at hsl; omega
  have hdl : dg.length ≤ s.length := by rw [hsp] at hsl; simp only at hsl; omega
  have hrl : rest.length ≤ s.length := by rw [hsp] at hsl; simp only at hsl; omega
  clear hb2 hb5 hx04 hsl hrn
  rintro _ W9 ⟨hx9, hb2, hb5⟩
  rw [hsp] at hb5 ⊢
  simp only at hb5 ⊢
  refine rn ?_
  have hrp : readP s = if dg = [] then none else if rest = [] then some (trimZ dg, -(kk : Int)) else match expP rest with
    | none => none
    | some (ng, l) => some (trimZ dg, -(kk : Int) + (if ng then -1 else 1) * ((min (numL l 0) 100000 : Nat) : Int)) := by
    unfold readP; rw [hsp]; rfl
  by_cases hd0 : dg = []
  · rw [if_pos hd0] at hrp
    subst hd0
    refine rn ?_
    refine sSt tb (vs := [S [], .int .i64 (-(kk : Int))]) (fun WR hbR hwR => ?_)
    refine rn ?_
    exact G.retAT tb rfl rfl hbR.cells ⟨⟨_, _, false, rfl, .inr ⟨rfl, hrp⟩⟩, Below.wr hx9 hwR (Nat.le_refl _)⟩ rfl rfl rfl rfl rfl rfl rfl
  rw [if_neg hd0] at hrp
  rw [decide_eq_false hd0]
  refine rn ?_
  refine sCall c26 (trimL_ok dg W9 (by omega)) ?_
  rintro _ _ ⟨rfl, rfl⟩
  refine rn ?_
  refine sSf tb (fun W10 hb10 hw10 => ?_)
  have hx10 : Ext w W10 := Below.wr hx9 hw10 (by omega)
  have hb2 := hb2.wr hw10 (by omega)
  have hb10 : Bx W10 b5 [S (trimZ dg), .int .i64 (-(kk : Int))] := hb10
  clear hb5 hw10 hx9
  refine rn ?_
  rcases rest with _ | ⟨c, r⟩
  · rw [if_pos rfl] at hrp
    refine rn ?_
    refine sSt tb (vs := [S (trimZ dg), .int .i64 (-(kk : Int))]) (fun WR hbR hwR => ?_)
    refine rn ?_
    exact G.retAT tb rfl rfl hbR.cells ⟨⟨_, _, true, rfl, .inl ⟨rfl, hrp⟩⟩, Below.wr hx10 hwR (Nat.le_refl _)⟩ rfl rfl rfl rfl rfl rfl rfl
  rw [if_neg (by simp)] at hrp
  obtain ⟨n, hn⟩ : ∃ n, n = (c :: r).length := ⟨_, rfl⟩
  have hn1 : n = r.length + 1 := by rw [hn]; rfl
  rw [decide_eq_false (p := (c :: r) = []) (by simp)]
  refine rn ?_
  refine sBs tb 0 ?_ (hj := fun _ => ⟨rfl, by rw [← hn]; omega⟩)
  rw [List.getD_cons_zero]
  refine rn ?_
  refine sBs tb 0 ?_ (hj := fun _ => ⟨rfl, by rw [← hn]; omega⟩)
  rw [List.getD_cons_zero]
  refine rn ?_
  have hbe : (!decide (((c.toNat : Nat) : Int) = 101) && !decide (((c.toNat : Nat) : Int) = 69)) = decide (¬ (c.toNat = 101 ∨ c.toNat = 69)) := by
    rw [Bool.eq_iff_iff]
    simp only [Bool.and_eq_true, Bool.not_eq_true', decide_eq_false_iff_not, decide_eq_true_eq]
    omega
  rw [hbe]
  by_cases hce : c.toNat = 101 ∨ c.toNat = 69
  rotate_left
  · have he : expP (c :: r) = none := by
      unfold expP
      rw [if_neg]
      rintro (h | h) <;> (injection h with h; subst h; exact hce (by decide))
    rw [he] at hrp
    rw [decide_eq_true hce]
    refine rn ?_
    refine sSt tb (vs := [S (trimZ dg), .int .i64 (-(kk : Int))]) (fun WR hbR hwR => ?_)
    refine rn ?_
    exact G.retAT tb rfl rfl hbR.cells ⟨⟨_, _, false, rfl, .inr ⟨rfl, hrp⟩⟩, Below.wr hx10 hwR (Nat.le_refl _)⟩ rfl rfl rfl rfl rfl rfl rfl
  have he : expP (c :: r) = if unsign r = [] ∨ runD (unsign r) ≠ (unsign r).length then none else some (minus r, unsign r) := by
    unfold expP
    rw [if_pos (hce.imp (fun h => by rw [UInt8.toNat_inj (b := 101) |>.1 h]; rfl) (fun h => by rw [UInt8.toNat_inj (b := 69) |>.1 h]; rfl))]
    rfl
  rw [he] at hrp
  clear he
  rw [decide_eq_false (p := ¬ (c.toNat = 101 ∨ c.toNat = 69)) (fun h => h hce)]
  refine rn ?_
  refine GL.cons (Step.sliceSl tb 1 rfl (Op1.of rfl (by first | exact fun _ => rfl | exact fun h => h | exact fun h => bL h | exact fun h => bL (bL h) | exact fun h => bL (bL (bL h)))) (Op1.of rfl (by first | exact fun _ => rfl | exact fun h => h | exact fun h => bL h | exact fun h => bL (bL h) | exact fun h => bL (bL (bL h)))) rfl (fun _ => ⟨rfl, by rw [← hn]; omega⟩) rfl ?_)
  rw [show (c :: r).drop 1 = r from rfl]
  have hr4 : r.length < 400 := by omega
  clear hbe hn1 hn hd0 hsp
  rcases r with _ | ⟨d, r⟩
  · rw [if_pos (.inl rfl)] at hrp
    refine rn ?_
    refine GL.cons (Step.off (v := U 0) rfl (of_decide_eq_true rfl) rfl ?_)
    refine rn ?_
    refine GL.cons (Step.off (v := U 0) rfl (of_decide_eq_true rfl) rfl ?_)
    refine rn ?_
    rw [decide_eq_true (p := ([] : List UInt8) = []) rfl]
    refine rn ?_
    refine GL.cons (Step.off (v := .int .i64 0) rfl (of_decide_eq_true rfl) rfl ?_)
    refine rn ?_
    refine sSt tb (vs := [S (trimZ dg), .int .i64 (-(kk : Int))]) (fun WR hbR hwR => ?_)
    refine rn ?_
    exact G.retAT tb rfl rfl hbR.cells ⟨⟨_, _, false, rfl, .inr ⟨rfl, hrp⟩⟩, Below.wr hx10 hwR (Nat.le_refl _)⟩ rfl rfl rfl rfl rfl rfl rfl
  obtain ⟨n, hn⟩ : ∃ n, n = (d :: r).length := ⟨_, rfl⟩
  have hn1 : n = r.length + 1 := by rw [hn]; rfl
  rw [← hn] at hr4
  refine rn ?_
  rw [decide_eq_false (p := (d :: r) = []) (by simp)]
  refine rn ?_
  refine sBs tb 0 ?_ (hj := fun _ => ⟨rfl, by rw [← hn]; omega⟩)
  rw [List.getD_cons_zero]
  refine rn ?_
  refine sBs tb 0 ?_ (hj := fun _ => ⟨rfl, by rw [← hn]; omega⟩)
  rw [List.getD_cons_zero]
  refine rn ?_
  have hbe : (!false && (decide (((d.toNat : Nat) : Int) = 43) || decide (((d.toNat : Nat) : Int) = 45))) = decide (d.toNat = 43 ∨ d.toNat = 45) := by
    rw [Bool.eq_iff_iff]
    simp only [Bool.not_false, Bool.true_and, Bool.or_eq_true, decide_eq_true_eq]
    omega
  rw [hbe]
  clear hbe
  have hsg : signed (d :: r) = decide (d.toNat = 43 ∨ d.toNat = 45) := by
    unfold signed
    rw [Bool.eq_iff_iff]
    simp only [List.head?_cons, Bool.or_eq_true, beq_iff_eq, decide_eq_true_eq, Option.some.injEq]
    rw [← UInt8.toNat_inj, ← UInt8.toNat_inj]
    exact Iff.rfl
  have hmn : minus (d :: r) = decide (d.toNat = 45) := by
    unfold minus
    rw [Bool.eq_iff_iff]
    simp only [List.head?_cons, beq_iff_eq, decide_eq_true_eq, Option.some.injEq]
    rw [← UInt8.toNat_inj]
    exact Iff.rfl
  refine G.join (fun _ : Unit => [(0, none, S (unsign (d :: r))), (2, none, ptr w.heap.size), (5, none, ptr b5), (6, none, .int .i64 (if minus (d :: r) then -1 else 1))]) (fun _ W' => W' = W10) ?_ ?_
  rotate_left
  · unfold unsign
    rw [hsg]
    by_cases hsi : d.toNat = 43 ∨ d.toNat = 45
    · rw [decide_eq_true hsi, if_pos rfl]
      refine rn ?_
      refine sBs tb 0 ?_ (hj := fun _ => ⟨rfl, by rw [← hn]; omega⟩)
      rw [List.getD_cons_zero]
      refine rn ?_
      refine G.join (fun _ : Unit => [(0, none, S (d :: r)), (2, none, ptr w.heap.size), (5, none, ptr b5), (6, none, .int .i64 (if minus (d :: r) then -1 else 1))]) (fun _ W' => W' = W10) ?_ ?_
      rotate_left
      · rw [hmn]
        by_cases h45 : d.toNat = 45
        · rw [decide_eq_true (p := ((d.toNat : Nat) : Int) = 45) (by omega), decide_eq_true h45, if_pos rfl]
          refine rn ?_
          exact G.met () (by repeat (first | exact Sub.nil _ | refine Sub.cons rfl ?_)) rfl
        · rw [decide_eq_false (p := ((d.toNat : Nat) : Int) = 45) (by omega), decide_eq_false h45, if_neg (by simp)]
          refine rn ?_
          exact G.met () (by repeat (first | exact Sub.nil _ | refine Sub.cons rfl ?_)) rfl
      rintro _ _ rfl
      generalize (if minus (d :: r) = true then (-1 : Int) else 1) = by_
      refine rn ?_
      refine GL.cons (Step.sliceSl tb 1 rfl (Op1.of rfl (by first | exact fun _ => rfl | exact fun h => h | exact fun h => bL h | exact fun h => bL (bL h) | exact fun h => bL (bL (bL h)))) (Op1.of rfl (by first | exact fun _ => rfl | exact fun h => h | exact fun h => bL h | exact fun h => bL (bL h) | exact fun h => bL (bL (bL h)))) rfl (fun _ => ⟨rfl, by rw [← hn]; omega⟩) rfl ?_)
      refine rn ?_
      exact G.met () (by repeat (first | exact Sub.nil _ | refine Sub.cons rfl ?_)) rfl
    · rw [decide_eq_false hsi, if_neg (by simp), hmn, decide_eq_false (p := d.toNat = 45) (by omega), if_neg (by simp)]
      refine rn ?_
      exact G.met () (by repeat (first | exact Sub.nil _ | refine Sub.cons rfl ?_)) rfl
  rintro _ W10 rfl
  have hul : (unsign (d :: r)).length ≤ n := by
    unfold unsign
    split
    · rw [List.length_drop, ← hn]; omega
    · rw [hn]; exact Nat.le_refl _
  have hby : (if minus (d :: r) = true then (-1 : Int) else 1) = -1 ∨ (if minus (d :: r) = true then (-1 : Int) else 1) = 1 := by split <;> simp
  clear hmn hsg
  generalize unsign (d :: r) = u at hrp hul ⊢
  obtain ⟨neg, hng⟩ : ∃ b, b = minus (d :: r) := ⟨_, rfl⟩
  rw [← hng] at hrp hby ⊢
  obtain ⟨by_, hbyy⟩ : ∃ x, x = (if neg = true then (-1 : Int) else 1) := ⟨_, rfl⟩
  rw [← hbyy] at hby ⊢
  by_cases hu0 : u = []
  · rw [if_pos (.inl hu0)] at hrp
    subst hu0
    refine rn ?_
    rw [decide_eq_true (p := ([] : List UInt8) = []) rfl]
    refine GL.cons (Step.off (v := .int .i64 0) rfl (of_decide_eq_true rfl) rfl ?_)
    refine rn ?_
    refine sSt tb (vs := [S (trimZ dg), .int .i64 (-(kk : Int))]) (fun WR hbR hwR => ?_)
    refine rn ?_
    exact G.retAT tb rfl rfl hbR.cells ⟨⟨_, _, false, rfl, .inr ⟨rfl, hrp⟩⟩, Below.wr hx10 hwR (Nat.le_refl _)⟩ rfl rfl rfl rfl rfl rfl rfl
  refine rn ?_
  rw [decide_eq_false hu0]
  refine GL.cons (Step.callX rfl rfl (by repeat (first | exact OpL.nil | refine OpL.cons (Op1.of rfl (by first | exact fun _ => rfl | exact fun h => h | exact fun h => bL h | exact fun h => bL (bL h) | exact fun h => bL (bL (bL h)))) ?_)) c165 rfl (fun hc => run_ok u W10 (by omega)) ?_)
  intro W11 hx11
  refine rn ?_
  by_cases hru : runD u = u.length
  rotate_left
  · rw [if_pos (.inr hru)] at hrp
    have hb2 := hb2.to hx11
    have hb10 := hb10.to hx11
    rw [decide_eq_false (p := ((runD u : Nat) : Int) = ((u.length : Nat) : Int)) (by omega)]
    refine rn ?_
    refine sSt tb (vs := [S (trimZ dg), .int .i64 (-(kk : Int))]) (fun WR hbR hwR => ?_)
    refine rn ?_
    exact G.retAT tb rfl rfl hbR.cells ⟨⟨_, _, false, rfl, .inr ⟨rfl, hrp⟩⟩, Below.wr (hx10.trans hx11) hwR (Nat.le_refl _)⟩ rfl rfl rfl rfl rfl rfl rfl
  rw [if_neg (by rintro (h | h); exact hu0 h; exact h hru)] at hrp
  rw [decide_eq_true (p := ((runD u : Nat) : Int) = ((u.length : Nat) : Int)) (by omega)]
  have hdig := runD_all hru
  have hb2 := hb2.to hx11
  have hb10 := hb10.to hx11
  have hx011 := hx10.trans hx11
  clear hx11 hx10
  refine rn ?_
  refine (G.loop (fun i : Nat => [(0, none, S u), (2, none, ptr w.heap.size), (5, none, ptr b5), (6, none, .int .i64 by_), (7, none, .int .i64 ((cutE 100000 u i : Nat) : Int)), (88, none, .int .i64 u.length), (89, none, .int .i64 i)]) (fun i W => W = W11 ∧ i ≤ u.length) (fun i => u.length - i) 0 (by repeat (first | exact Sub.nil _ | refine Sub.cons rfl ?_)) ⟨rfl, Nat.zero_le _⟩ ?_)
  rintro i W11 ⟨rfl, hi⟩
  have hcut : cutE 100000 u i ≤ 100000 := by
    cases i with
    | zero => exact Nat.zero_le _
    | succ i => exact Nat.min_le_right _ _
  have hcs : cutE 100000 u (i + 1) = min (10 * cutE 100000 u i + ((u.getD i 0).toNat - 48)) 100000 := rfl
  have hce := cutE_eq 100000 u i hi
  refine rn ?_
  first | refine G.condD rfl (fun hc => ?_) (fun hc => ?_) | refine G.condN rfl (fun hc => ?_) (fun hc => ?_) | refine G.cond rfl (fun hc => ?_) (fun hc => ?_)
  · have hlt : i < u.length := by omega
    have hc : 48 ≤ (u.getD i 0).toNat ∧ (u.getD i 0).toNat ≤ 57 := hdig (u.getD i 0) (by rw [List.getD_eq_getElem?_getD, List.getElem?_eq_getElem hlt]; exact List.getElem_mem hlt)
    obtain ⟨c, hgc⟩ : ∃ c, u.getD i 0 = c := ⟨_, rfl⟩
    rw [hgc] at hc hcs
    refine rn ?_
    refine sAd tb (r := ((10 * cutE 100000 u i : Nat) : Int)) ?_ (hp := (wrap_i64 (n := 10 * ((cutE 100000 u i : Nat) : Int)) (by omega) (by omega)).trans (by omega))
    refine rn ?_
    refine sBs tb i ?_ (hj := fun _ => ⟨rfl, hlt⟩)
    refine rn ?_
    rw [hgc]
    refine GL.cons (Step.arith (k := .u8) (a := (c.toNat : Int)) (b := 48) (r := ((c.toNat - 48 : Nat) : Int)) rfl (Op1.of rfl (by first | exact fun _ => rfl | exact fun h => h | exact fun h => bL h | exact fun h => bL (bL h) | exact fun h => bL (bL (bL h)))) (Op1.of rfl (by first | exact fun _ => rfl | exact fun h => h | exact fun h => bL h | exact fun h => bL (bL h) | exact fun h => bL (bL (bL h)))) ((Go.Vg.wrap_u8 _).trans (by omega)) rfl ?_)
    refine rn ?_
    refine sCv tb (r := ((c.toNat - 48 : Nat) : Int)) ?_
    refine sAd tb (r := ((10 * cutE 100000 u i + (c.toNat - 48) : Nat) : Int)) ?_ (hp := (wrap_i64 (n := ((10 * cutE 100000 u i : Nat) : Int) + ((c.toNat - 48 : Nat) : Int)) (by omega) (by omega)).trans (by omega))
    refine rn ?_
    refine GL.cons (Step.min2 rfl (Op1.of rfl (by first | exact fun _ => rfl | exact fun h => h | exact fun h => bL h | exact fun h => bL (bL h) | exact fun h => bL (bL (bL h)))) (Op1.of rfl (by first | exact fun _ => rfl | exact fun h => h | exact fun h => bL h | exact fun h => bL (bL h) | exact fun h => bL (bL (bL h)))) rfl ?_)
    rw [show (if (100000 : Int) < ((10 * cutE 100000 u i + (c.toNat - 48) : Nat) : Int) then (100000 : Int) else ((10 * cutE 100000 u i + (c.toNat - 48) : Nat) : Int)) = ((cutE 100000 u (i + 1) : Nat) : Int) by rw [hcs]; split <;> omega]
    refine rn ?_
    refine sAd tb (r := ((i + 1 : Nat) : Int)) ?_
    refine rn ?_
    exact G.lp (x := i) (i + 1) (by repeat (first | exact Sub.nil _ | refine Sub.cons rfl ?_)) ⟨rfl, by omega⟩ (by omega)
  · have hie : i = u.length := by omega
    rw [hie, List.take_length] at hce
    have hbe : -100000 ≤ by_ * ((cutE 100000 u u.length : Nat) : Int) ∧ by_ * ((cutE 100000 u u.length : Nat) : Int) ≤ 100000 := by
      rw [hie] at hcut
      rcases hby with h | h <;> rw [h] <;> omega
    have hrp : readP s = some (trimZ dg, -(kk : Int) + (if neg = true then -1 else 1) * ((min (numL u 0) 100000 : Nat) : Int)) := hrp
    rw [← hbyy, ← hce] at hrp
    rw [hie]
    obtain ⟨p, hp⟩ : ∃ p, p = by_ * ((cutE 100000 u u.length : Nat) : Int) := ⟨_, rfl⟩
    rw [← hp] at hrp hbe
    refine rn ?_
    refine sAd tb (r := p) ?_ (hp := (wrap_i64 (n := by_ * ((cutE 100000 u u.length : Nat) : Int)) (by omega) (by omega)).trans hp.symm)
    refine rn ?_
    refine sAd tb (r := -(kk : Int) + p) ?_ (hp := wrap_i64 (by omega) (by omega))
    refine rn ?_
    refine sSf tb (fun W12 hb12 hw12 => ?_)
    have hx12 := Below.wr hx011 hw12 (by omega)
    have hb2 := hb2.wr hw12 (by omega)
    have hb12 : Bx W12 b5 [S (trimZ dg), .int .i64 (-(kk : Int) + p)] := hb12
    refine rn ?_
    refine sSt tb (vs := [S (trimZ dg), .int .i64 (-(kk : Int) + p)]) (fun WR hbR hwR => ?_)
    refine rn ?_
    exact G.retAT tb rfl rfl hbR.cells ⟨⟨_, _, true, rfl, .inl ⟨rfl, hrp⟩⟩, Below.wr hx12 hwR (Nat.le_refl _)⟩ rfl rfl rfl rfl rfl rfl rfl
end Go.Proofs.YtcngoccnfmhhnaaGreatDoor
end
section
open Go Go.Vg Go.RowKit Go.Proofs Go.Proofs.YtcngoccnfmhhnaaGreatDoor
namespace Go.Proofs.YtcngoccnfmhhnaaGreatDoor
open Go.Nm

theorem near_fin (e2 : Int) (m2 : Nat) : (if 971 < e2 then infB else if m2 < 2 ^ 52 then m2 else (e2 + 1075).toNat * 2 ^ 52 + m2 % 2 ^ 52) < 2 ^ 63 := by
  have hi : infB < 2 ^ 63 := by decide
  split
  · exact hi
  · split <;> omega
theorem near_bd (q L : Nat) (e : Int) (more : Bool) : near q L e more < 2 ^ 63 := by
  unfold near
  simp only
  by_cases h : 63 < max ((L : Int) - 53) (-1074 - e)
  · rw [if_pos h]; exact Nat.two_pow_pos 63
  · rw [if_neg h]; exact near_fin _ _
theorem progBits_bd (ds : List UInt8) (x : Int) : progBits ds x < 2 ^ 63 := by
  unfold progBits
  split
  · exact Nat.two_pow_pos 63
  · split
    · decide
    · exact near_bd _ _ _ _
theorem or_sym (a b : Int) : bits .or .u64 a b = bits .or .u64 b a := by
  show IntKind.u64.wrap ((BitVec.ofInt 64 a ||| BitVec.ofInt 64 b).toNat : Int) = IntKind.u64.wrap ((BitVec.ofInt 64 b ||| BitVec.ofInt 64 a).toNat : Int)
  rw [BitVec.or_comm]
theorem or_sgn {b : Nat} (hb : b < 2 ^ 63) (n : Bool) : bits .or .u64 (b : Int) ((sgn n : Nat) : Int) = ((b + sgn n : Nat) : Int) := by
  rw [or_sym]
  cases n
  · have := or_low64 0 b 63 hb (by omega)
    rw [Nat.mul_zero, Nat.zero_add] at this
    exact this
  · have := or_low64 1 b 63 hb (by omega)
    rw [Nat.mul_one, Nat.add_comm] at this
    exact this
/-- what read finds -/
theorem read_bd {s ds : List UInt8} {x : Int} (h : readP s = some (ds, x)) : ∃ l, allD l ∧ ds = trimZ l ∧ l.length ≤ s.length ∧ -((s.length : Nat) : Int) - 100000 ≤ x ∧ x ≤ 100000 := by
  unfold readP at h
  have hsl := split_len s
  have hsd := split_dig s
  split at h
  · simp at h
  · split at h
    · injection h with h
      injection h with h1 h2
      exact ⟨_, hsd, h1.symm, by omega, by omega, by omega⟩
    · revert h
      generalize expP (splitP s).2.2 = r
      rcases r with _ | ⟨ng, l⟩
      · intro h; simp at h
      · intro h
        injection h with h
        injection h with h1 h2
        have hm : min (numL l 0) 100000 ≤ 100000 := Nat.min_le_right _ _
        generalize min (numL l 0) 100000 = m at hm h2
        refine ⟨_, hsd, h1.symm, by omega, ?_, ?_⟩ <;> (cases ng <;> simp at h2 <;> omega)
/-- what Parse tells -/
def ParseR (s : List UInt8) (r : Value) : Prop := match parseP s with
  | none => r = .tuple ⟨[Fl 0, .int .i64 8]⟩
  | some b => r = .tuple ⟨[Fl b, .int .i64 0]⟩
set_option maxHeartbeats 4000000 in
theorem parse_ok (s : List UInt8) (w : World) (hs : s.length ≤ 9223372036854775807) : Ret Tryz.prog 142 ⟨[S s]⟩ w fun r w' => ParseR s r ∧ Ext w w' := by
  unfold ParseR
  refine ret_of_G Tryz.func142 rfl Tryz.ntmps142 rfl ?_
  simp only [argEnv]
  refine rn ?_
  by_cases h400 : 400 < s.length
  · rw [decide_eq_true (p := (400 : Int) < ((s.length : Nat) : Int)) (by omega)]
    have hP : parseP s = none := by unfold parseP; rw [if_pos h400]
    rw [hP]
    refine rn ?_
    refine G.ret2 rfl rfl rfl rfl rfl ?_
    exact ⟨rfl, Ext.refl _⟩
  rw [decide_eq_false (p := (400 : Int) < ((s.length : Nat) : Int)) (by omega)]
  have hP : parseP s = if (unsign s).map lowB = [110, 97, 110] then some nanB
      else if (unsign s).map lowB = [105, 110, 102] ∨ (unsign s).map lowB = [105, 110, 102, 105, 110, 105, 116, 121] then some (infB + sgn (minus s))
      else match readP (unsign s) with
        | none => none
        | some (ds, x) => some (progBits ds x + sgn (minus s)) := by unfold parseP; rw [if_neg h400]; rfl
  have hpos : (!decide (s = [])) = true → 0 < s.length := fun h => by
    apply List.length_pos_iff.2
    intro h0
    rw [decide_eq_true h0] at h
    simp at h
  have hsg : (!decide (s = []) && (decide (((s.getD 0 0).toNat : Int) = 43) || decide (((s.getD 0 0).toNat : Int) = 45))) = signed s := by
    cases s with
    | nil => rfl
    | cons d l =>
      unfold signed
      rw [Bool.eq_iff_iff, decide_eq_false (p := d :: l = []) (by simp), List.getD_cons_zero]
      simp only [List.head?_cons, Bool.not_false, Bool.true_and, Bool.or_eq_true, beq_iff_eq, decide_eq_true_eq, Option.some.injEq]
      rw [← UInt8.toNat_inj, ← UInt8.toNat_inj]
      show (_ ∨ _) ↔ (d.toNat = 43 ∨ d.toNat = 45)
      omega
  have hmn : signed s = true → decide (((s.getD 0 0).toNat : Int) = 45) = minus s := by
    cases s with
    | nil => intro h; cases h
    | cons d l =>
      intro _
      unfold minus
      rw [Bool.eq_iff_iff, List.getD_cons_zero]
      simp only [List.head?_cons, beq_iff_eq, decide_eq_true_eq, Option.some.injEq]
      rw [← UInt8.toNat_inj]
      show _ ↔ d.toNat = 45
      omega
  have hspos : signed s = true → 0 < s.length := by
    cases s with
    | nil => intro h; cases h
    | cons d l => intro _; simp
  have hmn0 : signed s = false → minus s = false := by
    unfold signed minus
    simp only [Bool.or_eq_false_iff]
    exact fun h => h.2
  refine rn ?_
  refine sBs tb 0 ?_ (hj := by intro h; exact ⟨rfl, hpos h⟩)
  refine rn ?_
  refine sBs tb 0 ?_ (hj := by intro h; exact ⟨rfl, hpos (by revert h; cases decide (s = []) <;> simp [cv])⟩)
  refine rn ?_
  rw [hsg]
  refine G.join (fun _ : Unit => [(0, none, S (unsign s)), (4, none, .int .u64 ((sgn (minus s) : Nat) : Int))]) (fun _ W' => W' = w) ?_ ?_
  rotate_left
  · unfold unsign
    cases hs1 : signed s
    · rw [hmn0 hs1, if_neg (by simp)]
      refine rn ?_
      exact G.met () (by repeat (first | exact Sub.nil _ | refine Sub.cons rfl ?_)) rfl
    · rw [if_pos rfl]
      have hpos := hspos hs1
      refine rn ?_
      refine sBs tb 0 ?_ (hj := fun _ => ⟨rfl, hpos⟩)
      refine rn ?_
      rw [hmn hs1]
      refine G.join (fun _ : Unit => [(0, none, S s), (4, none, .int .u64 ((sgn (minus s) : Nat) : Int))]) (fun _ W' => W' = w) ?_ ?_
      rotate_left
      · cases minus s
        · refine rn ?_
          exact G.met () (by repeat (first | exact Sub.nil _ | refine Sub.cons rfl ?_)) rfl
        · refine rn ?_
          exact G.met () (by repeat (first | exact Sub.nil _ | refine Sub.cons rfl ?_)) rfl
      rintro _ w rfl
      refine rn ?_
      refine GL.cons (Step.sliceSl tb 1 rfl (Op1.of rfl (by first | exact fun _ => rfl | exact fun h => h | exact fun h => bL h | exact fun h => bL (bL h) | exact fun h => bL (bL (bL h)))) (Op1.of rfl (by first | exact fun _ => rfl | exact fun h => h | exact fun h => bL h | exact fun h => bL (bL h) | exact fun h => bL (bL (bL h)))) rfl (fun _ => ⟨rfl, hpos⟩) rfl ?_)
      refine rn ?_
      exact G.met () (by repeat (first | exact Sub.nil _ | refine Sub.cons rfl ?_)) rfl
  rintro _ w rfl
  have hul : (unsign s).length ≤ s.length := by
    unfold unsign
    split
    · rw [List.length_drop]; omega
    · exact Nat.le_refl _
  clear hsg hmn hspos hmn0 hpos
  generalize unsign s = u at hP hul ⊢
  generalize minus s = neg at hP ⊢
  refine rn ?_
  refine sCall c161 (small_ok u w (by omega)) ?_
  rintro _ W1 ⟨rfl, hx1⟩
  refine rn ?_
  by_cases h1 : u.map lowB = [110, 97, 110]
  · rw [decide_eq_true h1]
    rw [if_pos h1] at hP
    rw [hP]
    refine rn ?_
    refine GL.cons (Step.ext rfl rfl (by repeat (first | exact OpL.nil | refine OpL.cons (Op1.of rfl (by first | exact fun _ => rfl | exact fun h => h | exact fun h => bL h | exact fun h => bL (bL h) | exact fun h => bL (bL (bL h)))) ?_)) (run_ofbits Tryz.func41 (by kernel_rfl) (by kernel_rfl) (by kernel_rfl) (by kernel_rfl) nanB _) rfl ?_)
    refine rn ?_
    refine G.ret2 rfl rfl rfl rfl rfl ?_
    exact ⟨rfl, hx1⟩
  rw [if_neg h1] at hP
  rw [decide_eq_false h1]
  refine rn ?_
  refine G.join (fun _ : Unit => [(0, none, S u), (4, none, .int .u64 ((sgn neg : Nat) : Int)), (32, none, .bool (decide (u.map lowB = [105, 110, 102] ∨ u.map lowB = [105, 110, 102, 105, 110, 105, 116, 121])))]) (fun _ W' => W' = W1) ?_ ?_
  rotate_left
  · by_cases h2 : u.map lowB = [105, 110, 102]
    · rw [decide_eq_true h2, decide_eq_true (.inl h2)]
      refine rn ?_
      exact G.met () (by repeat (first | exact Sub.nil _ | refine Sub.cons rfl ?_)) rfl
    · rw [decide_eq_false h2, show decide (u.map lowB = [105, 110, 102] ∨ u.map lowB = [105, 110, 102, 105, 110, 105, 116, 121]) = decide (u.map lowB = [105, 110, 102, 105, 110, 105, 116, 121]) from decide_eq_decide.2 (or_iff_right h2)]
      refine rn ?_
      exact G.met () (by repeat (first | exact Sub.nil _ | refine Sub.cons rfl ?_)) rfl
  rintro _ W1 rfl
  by_cases h2 : u.map lowB = [105, 110, 102] ∨ u.map lowB = [105, 110, 102, 105, 110, 105, 116, 121]
  · rw [decide_eq_true h2]
    rw [if_pos h2] at hP
    rw [hP]
    refine rn ?_
    rw [show (9218868437227405312 : Int) = ((infB : Nat) : Int) by decide, or_sgn (by decide) neg]
    refine GL.cons (Step.ext rfl rfl (by repeat (first | exact OpL.nil | refine OpL.cons (Op1.of rfl (by first | exact fun _ => rfl | exact fun h => h | exact fun h => bL h | exact fun h => bL (bL h) | exact fun h => bL (bL (bL h)))) ?_)) (run_ofbits Tryz.func41 (by kernel_rfl) (by kernel_rfl) (by kernel_rfl) (by kernel_rfl) _ _) rfl ?_)
    refine rn ?_
    refine G.ret2 rfl rfl rfl rfl rfl ?_
    exact ⟨rfl, hx1⟩
  rw [decide_eq_false h2]
  rw [if_neg h2] at hP
  refine rn ?_
  refine sCall c162 (read_ok u W1 (by omega)) ?_
  rintro _ W2 ⟨⟨ds, x, ok, rfl, hr⟩, hx2⟩
  have hx02 := hx1.trans hx2
  refine rn ?_
  refine sAl tb (us := [S [], .int .i64 0]) (fun W3 hb5 hs3 hx3 => ?_)
  refine sSt tb (vs := [S ds, .int .i64 x]) (fun W4 hb5 hw4 => ?_)
  have hx4 : Ext W2 W4 := Below.wr hx3 hw4 (Nat.le_refl _)
  have hx04 := hx02.trans hx4
  refine rn ?_
  rcases hr with ⟨rfl, hr⟩ | ⟨rfl, hr⟩
  rotate_left
  · rw [hr] at hP
    have hP : parseP s = none := hP
    rw [hP]
    refine rn ?_
    refine G.ret2 rfl rfl rfl rfl rfl ?_
    exact ⟨rfl, hx04⟩
  rw [hr] at hP
  have hP : parseP s = some (progBits ds x + sgn neg) := hP
  rw [hP]
  obtain ⟨l, hd, rfl, hl, hxl, hxu⟩ := read_bd hr
  refine rn ?_
  refine sCall c163 (bits_ok l x W4 hd (by omega) (by omega) (by omega)) ?_
  rintro _ W5 ⟨rfl, hx5⟩
  refine rn ?_
  rw [or_sgn (progBits_bd _ _) neg]
  refine GL.cons (Step.ext rfl rfl (by repeat (first | exact OpL.nil | refine OpL.cons (Op1.of rfl (by first | exact fun _ => rfl | exact fun h => h | exact fun h => bL h | exact fun h => bL (bL h) | exact fun h => bL (bL (bL h)))) ?_)) (run_ofbits Tryz.func41 (by kernel_rfl) (by kernel_rfl) (by kernel_rfl) (by kernel_rfl) _ _) rfl ?_)
  refine rn ?_
  refine G.ret2 rfl rfl rfl rfl rfl ?_
  exact ⟨rfl, hx04.trans hx5⟩
end Go.Proofs.YtcngoccnfmhhnaaGreatDoor
end
section
namespace Go.Nm
open Go.Vg Ieee

theorem inf_eq : infB = 9218868437227405312 := by decide
theorem word_rung (s : Bool) (R : Nat) : double.word s R = R + sgn s := by
  unfold Format.word sgn
  rw [d_sw]
  cases s <;> simp
  omega
end Go.Nm
end
section
namespace Go.Vg
open Go.RowKit Ieee Go.Nm
/-- a word that is no number -/
def NanW (r : Nat) : Prop := ∃ R s, infB < R ∧ R < 2 ^ 63 ∧ r = R + sgn s
theorem NanW.read {r : Nat} (h : NanW r) : ∃ s f, double.read r = .nan s f := by
  obtain ⟨R, s, h1, h2, rfl⟩ := h
  rw [inf_eq] at h1
  rw [← word_rung]
  refine ⟨s, R - 9218868437227405312, ?_⟩
  unfold Format.read Format.word
  rw [d_bin, d_inf, d_sw]
  have e1 : (if s then 9223372036854775808 + R else R) % 9223372036854775808 = R := by cases s <;> simp <;> omega
  have e2 : (((if s then 9223372036854775808 + R else R) / 9223372036854775808 % 2 == 1)) = s := by
    cases s
    · rw [if_neg (by simp), Nat.div_eq_of_lt (by omega)]; rfl
    · rw [if_pos rfl, show (9223372036854775808 + R) / 9223372036854775808 = 1 by omega]; rfl
  dsimp only
  rw [e1, e2, if_neg (by omega), if_neg (by omega), if_neg (by omega)]
section
variable {X : Cx} {ops : Array Oper} {e : Env} {w : World} {N : Env → World → Prop} {d : Nat} {ty : TypeId} {pos : String} {af : Array Edge} {g : Option (Nat × Bool)}
end
end Go.Vg
end
section
namespace Go.Vg
variable {X : Cx} {k k' : List Kt} {ops ops' : Array Oper} {l l' : List Oper} {e e' : Env} {w : World} {L : List Prop}
theorem lgN (T : Tb X.P) (f : Nat) (h : G X k' e' w) (hr : goK T X.n f (.r ops l k) e [] = .done (.g k') e' L := by exact rfl)
    (hL : AllP L := by repeat (first | exact trivial | refine And.intro (by first | exact fun _ => rfl | exact fun h => h | exact fun h => bL h | exact fun h => bL (bL h) | exact fun h => bL (bL (bL h)) | exact fun _ _ => rfl | exact fun _ h => h | exact fun _ h => bNot h | exact fun h k => bAnd h k | exact fun h k => bAnd h (bNot k)) ?_)) : GL X ops l k e w := (goK_ok T f (.r ops l k) e [] hr hL h).2
end Go.Vg
end
section
namespace Go.Ex
open Go.Nm

def blB (c : UInt8) : Bool := decide (c.toNat = 32) || decide (c.toNat = 9)
def bls : List UInt8 → Nat
  | [] => 0
  | c :: l => if blB c then bls l + 1 else 0
def skipB (l : List UInt8) : List UInt8 := l.drop (bls l)
def letB (colons : Bool) (c : UInt8) : Bool :=
  (decide (97 ≤ c.toNat) && decide (c.toNat ≤ 122)) || (decide (65 ≤ c.toNat) && decide (c.toNat ≤ 90)) || decide (c.toNat = 95) || (decide (c.toNat = 58) && colons)
def nameN (colons first : Bool) : List UInt8 → Nat
  | [] => 0
  | c :: l => if letB colons c || (!first && isD c) then nameN colons false l + 1 else 0
/-- a name, and what is behind it -/
def nameP (colons : Bool) (l : List UInt8) : Option (List UInt8 × List UInt8) :=
  if nameN colons true l = 0 then none else some (l.take (nameN colons true l), l.drop (nameN colons true l))
/-- what stands behind a backslash -/
def escP : List UInt8 → Option (UInt8 × List UInt8)
  | [] => none
  | c :: l => if c = 92 then some (92, l) else if c = 34 then some (34, l) else if c = 110 then some (10, l) else none
def quoGo : Nat → List UInt8 → List UInt8 → Option (List UInt8 × List UInt8)
  | 0, _, _ => none
  | _ + 1, _, [] => none
  | f + 1, out, c :: l =>
    if c = 34 then some (out, l)
    else if c = 92 then match escP l with
      | none => none
      | some (b, r) => quoGo f (out ++ [b]) r
    else quoGo f (out ++ [c]) l
/-- a value in quotes -/
def quoP : List UInt8 → Option (List UInt8 × List UInt8)
  | [] => none
  | c :: l => if c = 34 then match quoGo (l.length + 1) [] l with
      | none => none
      | some (o, r) => if Lib.validD o then some (o, r) else none
    else none
def mustP (b : UInt8) : List UInt8 → Option (List UInt8)
  | [] => none
  | c :: l => if c = b then some l else none
/-- one label -/
def labP (l : List UInt8) : Option ((List UInt8 × List UInt8) × List UInt8) :=
  match nameP false l with
  | none => none
  | some (n, l1) => match mustP 61 (skipB l1) with
    | none => none
    | some l2 => match quoP (skipB l2) with
      | none => none
      | some (v, l3) => some ((n, v), l3)
def labGo : Nat → List (List UInt8 × List UInt8) → List UInt8 → Option (List (List UInt8 × List UInt8) × List UInt8)
  | 0, _, _ => none
  | f + 1, acc, l =>
    if l.head? = some 125 then some (acc, l) else
    match labP l with
    | none => none
    | some (x, r) => if x.1 ∈ acc.map (·.1) then none
      else if (skipB r).head? = some 44 then labGo f (acc ++ [x]) (skipB ((skipB r).drop 1))
      else some (acc ++ [x], skipB r)
/-- labels in braces -/
def labsP (l : List UInt8) : Option (List (List UInt8 × List UInt8) × List UInt8) :=
  match mustP 123 l with
  | none => none
  | some l1 => match labGo (l1.length + 1) [] (skipB l1) with
    | none => none
    | some (ls, l2) => match mustP 125 l2 with
      | none => none
      | some l3 => some (ls, l3)
def tokN : List UInt8 → Nat
  | [] => 0
  | c :: l => if blB c then 0 else tokN l + 1
def tokP (l : List UInt8) : Option (List UInt8 × List UInt8) := if tokN l = 0 then none else some (l.take (tokN l), l.drop (tokN l))
/-- a whole number's text; the reader's own -/
structure LineS where
  name : List UInt8
  labs : List (List UInt8 × List UInt8)
  val : Nat
  time : Option Int
/-- behind the name and the labels: the value and the time -/
def numsP (intP : List UInt8 → Option Int) (l : List UInt8) : Option (Nat × Option Int) :=
  match tokP l with
  | none => none
  | some (t, l1) => match parseP t with
    | none => none
    | some v => if skipB l1 = [] then some (v, none) else
      match tokP (skipB l1) with
      | none => none
      | some (t2, l2) => match intP t2 with
        | none => none
        | some n => if n < -9007199254740992 ∨ 9007199254740992 < n then none else if skipB l2 = [] then some (v, some n) else none
def sampleP (intP : List UInt8 → Option Int) (s : List UInt8) : Option LineS :=
  match nameP true (skipB s) with
  | none => none
  | some (nm, l1) =>
    if (skipB l1).head? = some 123 then match labsP (skipB l1) with
      | none => none
      | some (ls, l2) => match numsP intP (skipB l2) with
        | none => none
        | some (v, t) => some ⟨nm, ls, v, t⟩
    else if bls l1 = 0 then none else match numsP intP (skipB l1) with
      | none => none
      | some (v, t) => some ⟨nm, [], v, t⟩
end Go.Ex
end
section
namespace Go.Ex
open Go.Nm

theorem drop_at {s : List UInt8} {k : Nat} (h : k < s.length) : s.drop k = s.getD k 0 :: s.drop (k + 1) := by
  rw [List.drop_eq_getElem_cons h, List.getD_eq_getElem?_getD, List.getElem?_eq_getElem h]; rfl
theorem drop_no {s : List UInt8} {k : Nat} (h : ¬ k < s.length) : s.drop k = [] := List.drop_eq_nil_of_le (by omega)
theorem head_at (s : List UInt8) (k : Nat) (b : UInt8) : decide ((s.drop k).head? = some b) = (decide (k < s.length) && decide (s.getD k 0 = b)) := by
  by_cases h : k < s.length
  · rw [drop_at h]; simp [h]
  · rw [drop_no h]; simp [h]
theorem tokN_le : ∀ l : List UInt8, tokN l ≤ l.length
  | [] => Nat.le_refl _
  | c :: l => by
    have := tokN_le l
    simp only [tokN, List.length_cons]
    split <;> omega
theorem nameN_le : ∀ (l : List UInt8) (c f : Bool), nameN c f l ≤ l.length
  | [], _, _ => Nat.le_refl _
  | b :: l, c, f => by
    have := nameN_le l c false
    simp only [nameN, List.length_cons]
    split <;> omega
theorem skipB_len (l : List UInt8) : (skipB l).length ≤ l.length := by
  unfold skipB; rw [List.length_drop]; omega
theorem skipB_drop (s : List UInt8) (i : Nat) : skipB (s.drop i) = s.drop (i + bls (s.drop i)) := by
  unfold skipB; rw [List.drop_drop]
theorem nameP_len {c : Bool} {l n r : List UInt8} (h : nameP c l = some (n, r)) : r.length + n.length = l.length ∧ 1 ≤ n.length ∧ r = l.drop n.length ∧ n = l.take n.length := by
  unfold nameP at h
  have := nameN_le l c true
  split at h
  · cases h
  · simp only [Option.some.injEq, Prod.mk.injEq] at h
    obtain ⟨rfl, rfl⟩ := h
    simp only [List.length_drop, List.length_take]
    refine ⟨by omega, by omega, ?_, ?_⟩ <;> congr 1 <;> omega
theorem tokP_len {l n r : List UInt8} (h : tokP l = some (n, r)) : r.length + n.length = l.length ∧ 1 ≤ n.length := by
  unfold tokP at h
  have := tokN_le l
  split at h
  · cases h
  · simp only [Option.some.injEq, Prod.mk.injEq] at h
    obtain ⟨rfl, rfl⟩ := h
    simp only [List.length_drop, List.length_take]
    omega
theorem escP_len {l r : List UInt8} {b : UInt8} (h : escP l = some (b, r)) : r.length + 1 = l.length := by
  cases l with
  | nil => cases h
  | cons c l =>
    simp only [escP] at h
    repeat (first | split at h | (simp only [Option.some.injEq, Prod.mk.injEq] at h; obtain ⟨-, rfl⟩ := h; rfl) | cases h)
theorem mustP_len {l r : List UInt8} {b : UInt8} (h : mustP b l = some r) : r.length + 1 = l.length := by
  cases l with
  | nil => cases h
  | cons c l =>
    simp only [mustP] at h
    split at h
    · simp only [Option.some.injEq] at h; subst h; rfl
    · cases h
theorem quoGo_fuel : ∀ (n : Nat) (l out : List UInt8) (f g : Nat), l.length ≤ n → l.length < f → l.length < g → quoGo f out l = quoGo g out l := by
  intro n
  induction n with
  | zero =>
    intro l out f g h hf hg
    obtain rfl : l = [] := List.eq_nil_of_length_eq_zero (by omega)
    obtain ⟨f, rfl⟩ := Nat.exists_eq_succ_of_ne_zero (show f ≠ 0 by omega)
    obtain ⟨g, rfl⟩ := Nat.exists_eq_succ_of_ne_zero (show g ≠ 0 by omega)
    rfl
  | succ n ih =>
    intro l out f g h hf hg
    obtain ⟨f, rfl⟩ := Nat.exists_eq_succ_of_ne_zero (show f ≠ 0 by omega)
    obtain ⟨g, rfl⟩ := Nat.exists_eq_succ_of_ne_zero (show g ≠ 0 by omega)
    cases l with
    | nil => rfl
    | cons c l =>
      simp only [List.length_cons] at h hf hg
      simp only [Nat.succ_eq_add_one, quoGo]
      split
      · rfl
      · split
        · split
          · rfl
          · rename_i b r he
            have := escP_len he
            exact ih _ _ _ _ (by omega) (by omega) (by omega)
        · exact ih _ _ _ _ (by omega) (by omega) (by omega)
theorem quoGo_len : ∀ (f : Nat) (l out o r : List UInt8), quoGo f out l = some (o, r) → r.length + 1 ≤ l.length ∧ o.length ≤ out.length + l.length := by
  intro f
  induction f with
  | zero => intro l out o r h; cases h
  | succ f ih =>
    intro l out o r h
    cases l with
    | nil => cases h
    | cons c l =>
      simp only [quoGo] at h
      split at h
      · simp only [Option.some.injEq, Prod.mk.injEq] at h
        obtain ⟨rfl, rfl⟩ := h
        simp only [List.length_cons]; omega
      · split at h
        · split at h
          · cases h
          · rename_i b r' he
            have h1 := escP_len he
            have h2 := ih _ _ _ _ h
            simp only [List.length_append, List.length_cons, List.length_nil] at h2 ⊢
            omega
        · have h2 := ih _ _ _ _ h
          simp only [List.length_append, List.length_cons, List.length_nil] at h2 ⊢
          omega
theorem quoP_len {l o r : List UInt8} (h : quoP l = some (o, r)) : r.length + 2 ≤ l.length ∧ o.length ≤ l.length := by
  cases l with
  | nil => cases h
  | cons c l =>
    simp only [quoP] at h
    split at h
    · split at h
      · cases h
      · rename_i o' r' hq
        have := quoGo_len _ _ _ _ _ hq
        split at h
        · simp only [Option.some.injEq, Prod.mk.injEq] at h
          obtain ⟨rfl, rfl⟩ := h
          simp only [List.length_cons, List.length_nil] at this ⊢
          omega
        · cases h
    · cases h
theorem labP_len {l r : List UInt8} {x : List UInt8 × List UInt8} (h : labP l = some (x, r)) : r.length + 4 ≤ l.length ∧ x.1.length ≤ l.length ∧ x.2.length ≤ l.length := by
  unfold labP at h
  split at h
  · cases h
  · rename_i n l1 h1
    split at h
    · cases h
    · rename_i l2 h2
      split at h
      · cases h
      · rename_i v l3 h3
        simp only [Option.some.injEq, Prod.mk.injEq] at h
        obtain ⟨rfl, rfl⟩ := h
        have a1 := nameP_len h1
        have a2 := mustP_len h2
        have a3 := quoP_len h3
        have := skipB_len l1
        have := skipB_len l2
        simp only
        omega
theorem labGo_fuel : ∀ (n : Nat) (l : List UInt8) (acc : List (List UInt8 × List UInt8)) (f g : Nat), l.length ≤ n → l.length < f → l.length < g → labGo f acc l = labGo g acc l := by
  intro n
  induction n with
  | zero =>
    intro l acc f g h hf hg
    obtain rfl : l = [] := List.eq_nil_of_length_eq_zero (by omega)
    obtain ⟨f, rfl⟩ := Nat.exists_eq_succ_of_ne_zero (show f ≠ 0 by omega)
    obtain ⟨g, rfl⟩ := Nat.exists_eq_succ_of_ne_zero (show g ≠ 0 by omega)
    rfl
  | succ n ih =>
    intro l acc f g h hf hg
    obtain ⟨f, rfl⟩ := Nat.exists_eq_succ_of_ne_zero (show f ≠ 0 by omega)
    obtain ⟨g, rfl⟩ := Nat.exists_eq_succ_of_ne_zero (show g ≠ 0 by omega)
    simp only [Nat.succ_eq_add_one, labGo]
    split
    · rfl
    · split
      · rfl
      · rename_i x r he
        have h1 := labP_len he
        split
        · rfl
        · split
          · have h2 := skipB_len r
            have h3 := skipB_len ((skipB r).drop 1)
            rw [List.length_drop] at h3
            exact ih _ _ _ _ (by omega) (by omega) (by omega)
          · rfl
theorem labGo_len : ∀ (f : Nat) (l : List UInt8) (acc ls : List (List UInt8 × List UInt8)) (r : List UInt8), labGo f acc l = some (ls, r) → 4 * ls.length ≤ 4 * acc.length + l.length ∧ ∀ m, l.length ≤ m → (∀ x ∈ acc, x.1.length ≤ m ∧ x.2.length ≤ m) → ∀ x ∈ ls, x.1.length ≤ m ∧ x.2.length ≤ m := by
  intro f
  induction f with
  | zero => intro l acc ls r h; cases h
  | succ f ih =>
    intro l acc ls r h
    simp only [labGo] at h
    split at h
    · simp only [Option.some.injEq, Prod.mk.injEq] at h
      obtain ⟨rfl, rfl⟩ := h
      exact ⟨by omega, fun m _ h => h⟩
    · split at h
      · cases h
      · rename_i x q he
        have h1 := labP_len he
        have hac : ∀ m, l.length ≤ m → (∀ y ∈ acc, y.1.length ≤ m ∧ y.2.length ≤ m) → ∀ y ∈ acc ++ [x], y.1.length ≤ m ∧ y.2.length ≤ m := by
          intro m hm ha y hy
          rcases List.mem_append.1 hy with hy | hy
          · exact ha y hy
          · obtain rfl := List.mem_singleton.1 hy
            omega
        split at h
        · cases h
        · split at h
          · have h2 := skipB_len q
            have h3 := skipB_len ((skipB q).drop 1)
            rw [List.length_drop] at h3
            have h4 := ih _ _ _ _ h
            simp only [List.length_append, List.length_cons, List.length_nil] at h4
            exact ⟨by omega, fun m hm ha => h4.2 m (by omega) (hac m hm ha)⟩
          · simp only [Option.some.injEq, Prod.mk.injEq] at h
            obtain ⟨rfl, rfl⟩ := h
            simp only [List.length_append, List.length_cons, List.length_nil]
            exact ⟨by omega, hac⟩
theorem labsP_len {l r : List UInt8} {ls : List (List UInt8 × List UInt8)} (h : labsP l = some (ls, r)) : 4 * ls.length ≤ l.length ∧ ∀ x ∈ ls, x.1.length ≤ l.length ∧ x.2.length ≤ l.length := by
  unfold labsP at h
  split at h
  · cases h
  · rename_i l1 h1
    have e1 := mustP_len h1
    have e2 := skipB_len l1
    split at h
    · cases h
    · rename_i ls' l2 h2
      have e3 := labGo_len _ _ _ _ _ h2
      split at h
      · cases h
      · simp only [Option.some.injEq, Prod.mk.injEq] at h
        obtain ⟨rfl, rfl⟩ := h
        simp only [List.length_nil] at e3
        refine ⟨by omega, e3.2 _ (by omega) (by simp)⟩
theorem sampleP_len {f : List UInt8 → Option Int} {s : List UInt8} {L : LineS} (h : sampleP f s = some L) : 4 * L.labs.length ≤ s.length ∧ (∀ x ∈ L.labs, x.1.length ≤ s.length ∧ x.2.length ≤ s.length) ∧ L.name.length ≤ s.length := by
  unfold sampleP at h
  split at h
  · cases h
  · rename_i nm l1 h1
    have e0 := skipB_len s
    have e1 := nameP_len h1
    have e2 := skipB_len l1
    split at h
    · split at h
      · cases h
      · rename_i ls l2 h2
        have e3 := labsP_len h2
        split at h
        · cases h
        · simp only [Option.some.injEq] at h
          subst h
          refine ⟨by show 4 * ls.length ≤ _; omega, fun x hx => ?_, by show nm.length ≤ _; omega⟩
          have := e3.2 x hx
          omega
    · split at h
      · cases h
      · split at h
        · cases h
        · simp only [Option.some.injEq] at h
          subst h
          exact ⟨by simp, by simp, by show nm.length ≤ _; omega⟩
end Go.Ex
end
section
open Go Go.Vg Go.RowKit Go.Proofs Go.Proofs.YtcngoccnfmhhnaaGreatDoor
namespace Go.Proofs.YtcngoccnfmhhnaaGreatDoor
open Go.Ex

abbrev Tabs (w : World) : Prop := Lib.Utf8Tabs 2 3 w
theorem Tabs.to {w w' : World} (h : Tabs w) (hx : Ext w w') : Tabs w' := Utf8Tabs_below h hx
theorem cell_kp {b : Nat} {w w' : World} {a : Addr} {u : Value} (h : w.cell? a = some u) (k : Kp b w w') (hne : a.block ≠ b) : w'.cell? a = some u := by
  have hlt := World.block_lt_of_cell? w a h
  have := k.block a.block hlt hne
  unfold World.cell? at h ⊢
  rw [this]; exact h
theorem Tabs.kp {w w' : World} {b : Nat} (h : Tabs w) (hx : Kp b w w') (hb : 3 < b) : Tabs w' := by
  have h0 : (2 : Nat) ≠ b := by omega
  have h1 : (3 : Nat) ≠ b := by omega
  exact ⟨fun c hc => cell_kp (h.1 c hc) hx h0, fun i hi => ⟨cell_kp (h.2 i hi).1 hx h1, cell_kp (h.2 i hi).2 hx h1⟩⟩
theorem Tabs.lt {w : World} (h : Tabs w) : 3 < w.heap.size := World.block_lt_of_cell? w _ (h.2 0 (by omega)).1

/-- a reader at place i -/
structure Rd (w : World) (rb : Nat) (s : List UInt8) (i : Nat) : Prop where
  bx : Bx w rb [S s, .int .i64 i]
  tabs : Tabs w
  hb : 3 < rb
  hi : i ≤ s.length
  hs : s.length ≤ 1000000000
theorem Rd.to {w w' : World} {rb : Nat} {s : List UInt8} {i : Nat} (h : Rd w rb s i) (hx : Ext w w') : Rd w' rb s i := ⟨h.bx.to hx, h.tabs.to hx, h.hb, h.hi, h.hs⟩
theorem Rd.kp {w w' : World} {rb c : Nat} {s : List UInt8} {i : Nat} (h : Rd w rb s i) (hx : Kp c w w') (hc : rb < c) : Rd w' rb s i := ⟨h.bx.kp hx (by omega), h.tabs.kp hx (by have := h.hb; omega), h.hb, h.hi, h.hs⟩
theorem Rd.at_ {w w' : World} {rb : Nat} {s : List UInt8} {i : Nat} (h : Rd w rb s i) (hb : Bx w' rb [S s, .int .i64 ((i : Int) + 1)]) (hw : Wr rb w w') (hi : i < s.length) : Rd w' rb s (i + 1) :=
  ⟨by simpa using hb, h.tabs.kp hw.kp h.hb, h.hb, hi, h.hs⟩
/-- the panic of a refusal -/
def Bad (ch : List PanicEntry) : Prop := ∃ a e : Int, e ≠ 0 ∧ ch = [{ v := .iface 107 (.agg ⟨[.int .i64 a, .int .i64 e]⟩), recovered := false }]

theorem fail_ok (rb : Nat) (a e : Int) (w : World) (he : e ≠ 0) :
    RetP Tryz.prog 94 ⟨[ptr rb, .int .i64 a, .int .i64 e]⟩ w (fun _ _ => False) (fun ch w' => Bad ch ∧ w' = w) := by
  refine ret_of_GP Tryz.func94 rfl Tryz.ntmps94 rfl ?_
  simp only [argEnv]
  refine rn ?_
  refine sIf tb ?_
  refine sPanic (px_P rfl rfl ⟨⟨a, e, he, rfl⟩, rfl⟩)
theorem blank_ok (c : UInt8) (w : World) : Ret Tryz.prog 93 ⟨[U c]⟩ w fun r w' => r = .bool (blB c) ∧ Ext w w' := by
  refine ret_of_G Tryz.func93 rfl Tryz.ntmps93 rfl ?_
  simp only [argEnv]
  refine rn ?_
  refine G.ret1 rfl rfl rfl rfl ?_
  refine ⟨?_, Ext.refl _⟩
  unfold blB
  congr 1
  rw [Bool.eq_iff_iff]
  simp only [Bool.or_eq_true, decide_eq_true_eq]
  omega
theorem is_ok (b : UInt8) (w : World) (rb : Nat) (s : List UInt8) (i : Nat) (h : Rd w rb s i) :
    Ret Tryz.prog 140 ⟨[ptr rb, U b]⟩ w fun r w' => r = .bool (decide ((s.drop i).head? = some b)) ∧ Ext w w' := by
  have hbx := h.bx
  refine ret_of_G Tryz.func140 rfl Tryz.ntmps140 rfl ?_
  simp only [argEnv]
  refine rn ?_
  refine G.regionM [(0, true), (1, true), (2, true), (3, true), (4, true), (5, true), (6, true), (7, true), (8, true), (9, true), (10, true), (11, true), (12, true), (13, true), (14, true), (15, true), (16, true), (17, true), (18, true), (19, true), (20, true), (21, true), (22, true), (23, true)] (Ext w) (by kernel_rfl) (by kernel_rfl) rfl mixed (Ext.drew w) rfl ?_
  refine rd ?_
  refine dBs tb i ?_ (hj := fun hc => ⟨rfl, by have := of_decide_eq_true hc; omega⟩)
  refine rd ?_
  refine GM.nil ?_
  refine rn ?_
  refine G.ret1 rfl rfl rfl rfl ?_
  refine ⟨?_, Ext.drew w⟩
  rw [head_at]
  congr 1
  rw [Bool.eq_iff_iff]
  simp only [Bool.and_eq_true, decide_eq_true_eq, ← UInt8.toNat_inj]
  omega
theorem blanks_ok (w : World) (rb : Nat) (s : List UInt8) (i : Nat) (h : Rd w rb s i) :
    Ret Tryz.prog 58 ⟨[ptr rb]⟩ w fun r w' => r = .bool (decide (0 < bls (s.drop i))) ∧ Rd w' rb s (i + bls (s.drop i)) ∧ Kp rb w w' := by
  have hbx := h.bx
  have hi0 := h.hi
  have hs := h.hs
  refine ret_of_G Tryz.func58 rfl Tryz.ntmps58 rfl ?_
  simp only [argEnv]
  refine rn ?_
  refine (G.loop (fun k : Nat => [(0, none, ptr rb), (2, none, .bool false), (3, none, .int .i64 i)]) (fun k W => Rd W rb s k ∧ Kp rb w W ∧ i ≤ k ∧ bls (s.drop i) = (k - i) + bls (s.drop k)) (fun k => s.length - k) i (by repeat (first | exact Sub.nil _ | refine Sub.cons rfl ?_)) ⟨h, Kp.refl _ _, Nat.le_refl _, by omega⟩ ?_)
  clear hbx
  rintro k W ⟨hr, hk, hik, he⟩
  have hbx := hr.bx
  have hkl := hr.hi
  refine rn ?_
  refine G.regionM [(0, true), (1, true), (2, true), (3, true), (4, true), (5, true), (6, true), (7, true), (8, true), (9, true), (10, true), (11, true), (12, true), (13, true), (14, true), (15, true), (16, true), (17, true), (18, true), (19, true), (20, false), (21, true)] (Ext W) (by kernel_rfl) (by kernel_rfl) rfl mixed (Ext.drew W) rfl ?_
  refine rd ?_
  refine dBs tb k ?_ (hj := fun hc => ⟨rfl, by have := of_decide_eq_true hc; omega⟩)
  refine rd ?_
  refine GM.eff (Step.callX rfl rfl (by repeat (first | exact OpL.nil | refine OpL.cons (Op1.of rfl (by first | exact fun _ => rfl | exact fun h => h | exact fun h => bL h | exact fun h => bL (bL h) | exact fun h => bL (bL (bL h)))) ?_)) c93 rfl (fun hc => blank_ok _ _) ?_)
  intro W2 hx2
  have hx2 := (Ext.drew W).trans hx2
  refine ⟨hx2, ?_⟩
  refine rd ?_
  refine GM.nil ?_
  have hr2 := hr.to hx2
  have hbx := hr2.bx
  by_cases hlt : k < s.length
  · rw [decide_eq_true (show (k : Int) < s.length by omega)]
    rw [drop_at hlt] at he
    simp only [bls] at he
    cases hb : blB (s.getD k 0)
    · rw [hb] at he
      simp only [Bool.false_eq_true, if_false] at he
      refine rn ?_
      refine G.ret1 rfl rfl rfl rfl ?_
      refine ⟨?_, ?_, hk.trans hx2.kp⟩
      · congr 1
        rw [decide_eq_decide]; omega
      · rw [show i + bls (s.drop i) = k by omega]; exact hr2
    · rw [hb] at he
      simp only [if_true] at he
      refine rn ?_
      refine sAd tb ?_
      refine rn ?_
      refine sSf tb (fun W3 hb3 hw3 => ?_)
      refine rn ?_
      exact G.lp (x := k) (k + 1) (by repeat (first | exact Sub.nil _ | refine Sub.cons rfl ?_)) ⟨hr2.at_ hb3 hw3 hlt, (hk.trans hx2.kp).trans hw3.kp, by omega, by omega⟩ (by omega)
  · rw [decide_eq_false (show ¬ (k : Int) < s.length by omega)]
    have hle := hr.hi
    rw [drop_no hlt] at he
    simp only [bls] at he
    refine rn ?_
    refine G.ret1 rfl rfl rfl rfl ?_
    refine ⟨?_, ?_, hk.trans hx2.kp⟩
    · congr 1
      rw [decide_eq_decide]; omega
    · rw [show i + bls (s.drop i) = k by omega]; exact hr2
theorem must_ok (b : UInt8) (w : World) (rb : Nat) (s : List UInt8) (i : Nat) (h : Rd w rb s i) :
    RetP Tryz.prog 159 ⟨[ptr rb, U b]⟩ w (fun _ w' => mustP b (s.drop i) = some (s.drop (i + 1)) ∧ Rd w' rb s (i + 1) ∧ Kp rb w w') (fun ch w' => mustP b (s.drop i) = none ∧ Bad ch ∧ Kp rb w w') := by
  have hs := h.hs
  have hi := h.hi
  refine ret_of_GP Tryz.func159 rfl Tryz.ntmps159 rfl ?_
  simp only [argEnv]
  refine rn ?_
  refine sCall c140 (is_ok b w rb s i h) ?_
  rintro _ W ⟨rfl, hx⟩
  have hr := h.to hx
  have hbx := hr.bx
  refine rn ?_
  first | refine G.condD rfl (fun hc => ?_) (fun hc => ?_) | refine G.condN rfl (fun hc => ?_) (fun hc => ?_) | refine G.cond rfl (fun hc => ?_) (fun hc => ?_)
  · have hm : mustP b (s.drop i) = none := by
      cases hd : s.drop i with
      | nil => rfl
      | cons c l => rw [hd] at hc; simp only [mustP]; rw [if_neg (by simpa using hc)]
    refine rn ?_
    refine sCallP c94 (fail_ok rb i 8 W (by decide)) (fun ch w' hz => px_P rfl rfl ?_) ?_
    · exact ⟨hm, hz.1, by rw [hz.2]; exact hx.kp⟩
    · rintro _ _ ⟨⟩
  · have hlt : i < s.length := by
      by_cases hlt : i < s.length
      · exact hlt
      · rw [drop_no hlt] at hc; simp at hc
    have hm : mustP b (s.drop i) = some (s.drop (i + 1)) := by
      rw [drop_at hlt] at hc ⊢
      simp only [mustP]; rw [if_pos (by simpa using hc)]
    refine rn ?_
    refine sAd tb ?_
    refine rn ?_
    refine sSf tb (fun W3 hb3 hw3 => ?_)
    refine rn ?_
    refine G.endP0 rfl rfl rfl ?_
    exact ⟨hm, hr.at_ hb3 hw3 hlt, hx.kp.trans hw3.kp⟩
theorem name_ok (colons : Bool) (w : World) (rb : Nat) (s : List UInt8) (i : Nat) (h : Rd w rb s i) :
    RetP Tryz.prog 60 ⟨[ptr rb, .bool colons]⟩ w (fun r w' => ∃ n, nameP colons (s.drop i) = some (n, s.drop (i + n.length)) ∧ r = S n ∧ Rd w' rb s (i + n.length) ∧ Kp rb w w') (fun ch w' => nameP colons (s.drop i) = none ∧ Bad ch ∧ Kp rb w w') := by
  have hbx := h.bx
  have hi0 := h.hi
  have hs := h.hs
  refine ret_of_GP Tryz.func60 rfl Tryz.ntmps60 rfl ?_
  simp only [argEnv]
  try (first | refine gl tb ?_ | refine gg tb ?_ | refine ll tb ?_ | refine lg tb ?_)
  refine sFa tb ?_
  try (first | refine gl tb ?_ | refine gg tb ?_ | refine ll tb ?_ | refine lg tb ?_)
  refine sLd tb ?_
  refine lgN tb 3 ?_
  refine G.join (fun k : Nat => [(0, none, ptr rb), (1, none, .bool colons), (4, none, S []), (5, none, .int .i64 i)]) (fun k W => Rd W rb s k ∧ Kp rb w W ∧ i ≤ k ∧ nameN colons true (s.drop i) = k - i) ?_ ?_
  · rintro k W ⟨hr, hk, hik, he⟩
    have hbx := hr.bx
    have hkl := hr.hi
    refine rn ?_
    first | refine G.condD rfl (fun hc => ?_) (fun hc => ?_) | refine G.condN rfl (fun hc => ?_) (fun hc => ?_) | refine G.cond rfl (fun hc => ?_) (fun hc => ?_)
    · refine rn ?_
      refine sCallP c94 (fail_ok rb k 8 W (by decide)) (fun ch w' hz => px_P rfl rfl ?_) ?_
      · refine ⟨?_, hz.1, by rw [hz.2]; exact hk⟩
        unfold nameP; rw [if_pos (by omega)]
      · rintro _ _ ⟨⟩
    · refine rn ?_
      refine G.regionM [(0, true), (1, true), (2, true), (3, true), (4, true), (5, true), (6, true), (7, true), (8, true), (9, true), (10, true)] (Ext W) (by kernel_rfl) (by kernel_rfl) rfl mixed (Ext.drew W) rfl ?_
      refine rd ?_
      refine GM.read (fun w' hS => Step.sliceS tb i k rfl (Op1.of rfl (by first | exact fun _ => rfl | exact fun h => h | exact fun h => bL h | exact fun h => bL (bL h) | exact fun h => bL (bL (bL h)))) (Op1.of rfl (by first | exact fun _ => rfl | exact fun h => h | exact fun h => bL h | exact fun h => bL (bL h) | exact fun h => bL (bL (bL h)))) (Op1.of rfl (by first | exact fun _ => rfl | exact fun h => h | exact fun h => bL h | exact fun h => bL (bL h) | exact fun h => bL (bL (bL h)))) rfl (fun _ => ⟨rfl, rfl, by omega, by omega⟩) rfl ⟨rfl, rfl⟩) rfl rfl ?_
      refine rd ?_
      refine GM.nil ?_
      refine rn ?_
      refine G.retP1 rfl rfl rfl rfl ?_
      have hl : ((s.drop i).take (k - i)).length = k - i := by rw [List.length_take, List.length_drop]; omega
      refine ⟨(s.drop i).take (k - i), ?_, rfl, ?_, hk.trans (Ext.drew W).kp⟩
      · unfold nameP
        rw [if_neg (by omega), he, hl, List.drop_drop]
      · rw [hl, show i + (k - i) = k by omega]
        exact hr.to (Ext.drew W)
  · refine rn ?_
    refine (G.loop (fun k : Nat => [(0, none, ptr rb), (1, none, .bool colons), (4, none, S []), (5, none, .int .i64 i)]) (fun k W => Rd W rb s k ∧ Kp rb w W ∧ i ≤ k ∧ nameN colons true (s.drop i) = (k - i) + nameN colons (decide (k = i)) (s.drop k)) (fun k => s.length - k) i (by repeat (first | exact Sub.nil _ | refine Sub.cons rfl ?_)) ⟨h, Kp.refl _ _, Nat.le_refl _, by simp⟩ ?_)
    clear hbx
    rintro k W ⟨hr, hk, hik, he⟩
    have hbx := hr.bx
    have hkl := hr.hi
    refine rn ?_
    refine G.regionM [(0, true), (1, true), (2, true), (3, true), (4, true), (5, true), (6, true), (7, true), (8, true), (9, true)] (Ext W) (by kernel_rfl) (by kernel_rfl) rfl mixed (Ext.drew W) rfl ?_
    refine rd ?_
    refine GM.nil ?_
    first | refine G.condD rfl (fun hc => ?_) (fun hc => ?_) | refine G.condN rfl (fun hc => ?_) (fun hc => ?_) | refine G.cond rfl (fun hc => ?_) (fun hc => ?_)
    · have hlt : k < s.length := by omega
      refine rn ?_
      refine G.regionM [(0, true), (1, true), (2, true), (3, true), (4, true), (5, true), (6, true), (7, true), (8, true), (9, true)] (Ext W.drew) (by kernel_rfl) (by kernel_rfl) rfl mixed (Ext.drew W.drew) rfl ?_
      refine rd ?_
      refine dBs tb k ?_ (hj := fun _ => ⟨rfl, by omega⟩)
      refine rd ?_
      refine GM.nil ?_
      refine rn ?_
      refine G.cond rfl (fun hc => ?_) (fun hc => ?_)
      · have hno : (letB colons (s.getD k 0) || (!decide (k = i) && Nm.isD (s.getD k 0))) = false := by
          cases colons <;> simp [letB, Nm.isD] at hc ⊢ <;> omega
        rw [drop_at hlt] at he
        simp only [nameN, hno, Bool.false_eq_true, if_false] at he
        refine rn ?_
        exact G.met k (by repeat (first | exact Sub.nil _ | refine Sub.cons rfl ?_)) ⟨hr.to (Ext.drew W |>.trans (Ext.drew _)), hk.trans ((Ext.drew W).trans (Ext.drew _)).kp, hik, by omega⟩
      · have hyes : (letB colons (s.getD k 0) || (!decide (k = i) && Nm.isD (s.getD k 0))) = true := by
          cases colons <;> simp [letB, Nm.isD] at hc ⊢ <;> omega
        rw [drop_at hlt] at he
        simp only [nameN, hyes, if_true] at he
        have hx2 := (Ext.drew W).trans (Ext.drew W.drew)
        have hr2 := hr.to hx2
        have hbx := hr2.bx
        refine rn ?_
        refine sAd tb ?_
        refine rn ?_
        refine sSf tb (fun W3 hb3 hw3 => ?_)
        refine rn ?_
        exact G.lp (x := k) (k + 1) (by repeat (first | exact Sub.nil _ | refine Sub.cons rfl ?_)) ⟨hr2.at_ hb3 hw3 hlt, (hk.trans hx2.kp).trans hw3.kp, by omega, by rw [decide_eq_false (show ¬ k + 1 = i by omega)]; omega⟩ (by omega)
    · have hlt : ¬ k < s.length := by omega
      rw [drop_no hlt] at he
      simp only [nameN] at he
      refine rn ?_
      exact G.met k (by repeat (first | exact Sub.nil _ | refine Sub.cons rfl ?_)) ⟨hr.to (Ext.drew W), hk.trans (Ext.drew W).kp, hik, by omega⟩
theorem token_ok (w : World) (rb : Nat) (s : List UInt8) (i : Nat) (h : Rd w rb s i) :
    RetP Tryz.prog 59 ⟨[ptr rb]⟩ w (fun r w' => ∃ n, tokP (s.drop i) = some (n, s.drop (i + n.length)) ∧ r = .tuple ⟨[S n, .int .i64 i]⟩ ∧ Rd w' rb s (i + n.length) ∧ Kp rb w w') (fun ch w' => tokP (s.drop i) = none ∧ Bad ch ∧ Kp rb w w') := by
  have hbx := h.bx
  have hi0 := h.hi
  have hs := h.hs
  refine ret_of_GP Tryz.func59 rfl Tryz.ntmps59 rfl ?_
  simp only [argEnv]
  try (first | refine gl tb ?_ | refine gg tb ?_ | refine ll tb ?_ | refine lg tb ?_)
  refine sFa tb ?_
  try (first | refine gl tb ?_ | refine gg tb ?_ | refine ll tb ?_ | refine lg tb ?_)
  refine sLd tb ?_
  refine lgN tb 3 ?_
  refine G.join (fun k : Nat => [(0, none, ptr rb), (2, none, S []), (3, none, .int .i64 0), (4, none, .int .i64 i)]) (fun k W => Rd W rb s k ∧ Kp rb w W ∧ i ≤ k ∧ tokN (s.drop i) = k - i) ?_ ?_
  · rintro k W ⟨hr, hk, hik, he⟩
    have hbx := hr.bx
    have hkl := hr.hi
    refine rn ?_
    first | refine G.condD rfl (fun hc => ?_) (fun hc => ?_) | refine G.condN rfl (fun hc => ?_) (fun hc => ?_) | refine G.cond rfl (fun hc => ?_) (fun hc => ?_)
    · refine rn ?_
      refine sCallP c94 (fail_ok rb k 8 W (by decide)) (fun ch w' hz => px_P rfl rfl ?_) ?_
      · refine ⟨?_, hz.1, by rw [hz.2]; exact hk⟩
        unfold tokP; rw [if_pos (by omega)]
      · rintro _ _ ⟨⟩
    · refine rn ?_
      refine G.regionM [(0, true), (1, true), (2, true), (3, true), (4, true), (5, true), (6, true), (7, true), (8, true), (9, true), (10, true), (11, true), (12, true)] (Ext W) (by kernel_rfl) (by kernel_rfl) rfl mixed (Ext.drew W) rfl ?_
      refine rd ?_
      refine GM.read (fun w' hS => Step.sliceS tb i k rfl (Op1.of rfl (by first | exact fun _ => rfl | exact fun h => h | exact fun h => bL h | exact fun h => bL (bL h) | exact fun h => bL (bL (bL h)))) (Op1.of rfl (by first | exact fun _ => rfl | exact fun h => h | exact fun h => bL h | exact fun h => bL (bL h) | exact fun h => bL (bL (bL h)))) (Op1.of rfl (by first | exact fun _ => rfl | exact fun h => h | exact fun h => bL h | exact fun h => bL (bL h) | exact fun h => bL (bL (bL h)))) rfl (fun _ => ⟨rfl, rfl, by omega, by omega⟩) rfl ⟨rfl, rfl⟩) rfl rfl ?_
      refine rd ?_
      refine GM.nil ?_
      refine rn ?_
      refine G.retP2 rfl rfl rfl rfl rfl ?_
      have hl : ((s.drop i).take (k - i)).length = k - i := by rw [List.length_take, List.length_drop]; omega
      refine ⟨(s.drop i).take (k - i), ?_, rfl, ?_, hk.trans (Ext.drew W).kp⟩
      · unfold tokP
        rw [if_neg (by omega), he, hl, List.drop_drop]
      · rw [hl, show i + (k - i) = k by omega]
        exact hr.to (Ext.drew W)
  · refine rn ?_
    refine (G.loop (fun k : Nat => [(0, none, ptr rb), (2, none, S []), (3, none, .int .i64 0), (4, none, .int .i64 i)]) (fun k W => Rd W rb s k ∧ Kp rb w W ∧ i ≤ k ∧ tokN (s.drop i) = (k - i) + tokN (s.drop k)) (fun k => s.length - k) i (by repeat (first | exact Sub.nil _ | refine Sub.cons rfl ?_)) ⟨h, Kp.refl _ _, Nat.le_refl _, by omega⟩ ?_)
    clear hbx
    rintro k W ⟨hr, hk, hik, he⟩
    have hbx := hr.bx
    have hkl := hr.hi
    refine rn ?_
    refine G.regionM [(0, true), (1, true), (2, true), (3, true), (4, true), (5, true), (6, true), (7, true), (8, true), (9, true), (10, true), (11, true), (12, true), (13, true), (14, true), (15, true), (16, true), (17, true), (18, true), (19, true), (20, false), (21, true), (22, true)] (Ext W) (by kernel_rfl) (by kernel_rfl) rfl mixed (Ext.drew W) rfl ?_
    refine rd ?_
    refine dBs tb k ?_ (hj := fun hc => ⟨rfl, by have := of_decide_eq_true hc; omega⟩)
    refine rd ?_
    refine GM.eff (Step.callX rfl rfl (by repeat (first | exact OpL.nil | refine OpL.cons (Op1.of rfl (by first | exact fun _ => rfl | exact fun h => h | exact fun h => bL h | exact fun h => bL (bL h) | exact fun h => bL (bL (bL h)))) ?_)) c93 rfl (fun hc => blank_ok _ _) ?_)
    intro W2 hx2
    have hx2 := (Ext.drew W).trans hx2
    refine ⟨hx2, ?_⟩
    refine rd ?_
    refine GM.nil ?_
    have hr2 := hr.to hx2
    have hbx := hr2.bx
    by_cases hlt : k < s.length
    · rw [decide_eq_true (show (k : Int) < s.length by omega)]
      rw [drop_at hlt] at he
      simp only [tokN] at he
      cases hb : blB (s.getD k 0)
      · rw [hb] at he
        simp only [Bool.false_eq_true, if_false] at he
        refine rn ?_
        refine sAd tb ?_
        refine rn ?_
        refine sSf tb (fun W3 hb3 hw3 => ?_)
        refine rn ?_
        exact G.lp (x := k) (k + 1) (by repeat (first | exact Sub.nil _ | refine Sub.cons rfl ?_)) ⟨hr2.at_ hb3 hw3 hlt, (hk.trans hx2.kp).trans hw3.kp, by omega, by omega⟩ (by omega)
      · rw [hb] at he
        simp only [if_true] at he
        refine rn ?_
        exact G.met k (by repeat (first | exact Sub.nil _ | refine Sub.cons rfl ?_)) ⟨hr2, hk.trans hx2.kp, hik, by omega⟩
    · rw [decide_eq_false (show ¬ (k : Int) < s.length by omega)]
      have hle := hr.hi
      rw [drop_no hlt] at he
      simp only [tokN] at he
      refine rn ?_
      exact G.met k (by repeat (first | exact Sub.nil _ | refine Sub.cons rfl ?_)) ⟨hr2, hk.trans hx2.kp, hik, by omega⟩
end Go.Proofs.YtcngoccnfmhhnaaGreatDoor
end
section
namespace Go.Proofs
open Go.Shelf
def Tryz.lays167_ren : Go.Shelf.Ren := ⟨fun | 167 => 51 | 240 => 89 | 276 => 121 | n => n, fun | 37 => 22 | 70 => 90 | 72 => 92 | 75 => 94 | 76 => 95 | 164 => 167 | 80 => 98 | 127 => 133 | n => n, fun | n => n⟩
theorem Tryz.lays167 : Go.Proofs.Lays.n167 Tryz.prog Tryz.lays167_ren := {
  mixed := by kernel_rfl
  f167 := Tryz.func51.trans (congrArg some (by kernel_rfl))
  f240 := Tryz.func89.trans (congrArg some (by kernel_rfl))
  f276 := Tryz.func121.trans (congrArg some (by kernel_rfl))
  t0 := Tryz.underlying0
  a0 := Tryz.isAgg0
  z0 := Tryz.sizeOf0
  v0 := Tryz.zeroValue0
  t4 := Tryz.underlying4
  a4 := Tryz.isAgg4
  z4 := Tryz.sizeOf4
  v4 := Tryz.zeroValue4
  t5 := Tryz.underlying5
  a5 := Tryz.isAgg5
  z5 := Tryz.sizeOf5
  v5 := Tryz.zeroValue5
  t9 := Tryz.underlying9
  a9 := Tryz.isAgg9
  z9 := Tryz.sizeOf9
  v9 := Tryz.zeroValue9
  t20 := Tryz.underlying20
  a20 := Tryz.isAgg20
  z20 := Tryz.sizeOf20
  v20 := Tryz.zeroValue20
  t37 := Tryz.underlying22
  a37 := Tryz.isAgg22
  z37 := Tryz.sizeOf22
  v37 := Tryz.zeroValue22
  t70 := Tryz.underlying90
  a70 := Tryz.isAgg90
  z70 := Tryz.sizeOf90
  v70 := Tryz.zeroValue90
  t72 := Tryz.underlying92
  a72 := Tryz.isAgg92
  z72 := Tryz.sizeOf92
  v72 := Tryz.zeroValue92
  t75 := Tryz.underlying94
  a75 := Tryz.isAgg94
  z75 := Tryz.sizeOf94
  v75 := Tryz.zeroValue94
  t164 := Tryz.underlying167
  a164 := Tryz.isAgg167
  z164 := Tryz.sizeOf167
  v164 := Tryz.zeroValue167 }
theorem Tryz.Builder_Extra_167 : Builder.Extra Tryz.prog Tryz.lays167_ren := {
  sizeBuilder := by kernel_rfl
  liesBuilder := by kernel_rfl
  t5 := Tryz.underlying5
  a5 := Tryz.isAgg5
  z5 := Tryz.sizeOf5
  v5 := Tryz.zeroValue5
  infoByte := by kernel_rfl
  cellsByte := by kernel_rfl
  sizeByte := by kernel_rfl
  neB5 := by decide }
end Go.Proofs
end
section
namespace Go.Proofs
open Go.Shelf
def Tryz.laysValid_ren : Go.Shelf.Ren := ⟨fun | 196 => 63 | 259 => 96 | n => n, fun | 9 => 9 | 4 => 4 | 3 => 3 | 5 => 5 | 12 => 12 | 119 => 140 | 0 => 0 | 46 => 130 | 139 => 143 | 138 => 142 | 53 => 82 | n => n, fun | 3 => 2 | 4 => 3 | n => n⟩
theorem Tryz.laysValid : Go.Proofs.Lays.n196 Tryz.prog Tryz.laysValid_ren := {
  mixed := by kernel_rfl
  f196 := Tryz.func63.trans (congrArg some (by kernel_rfl))
  f259 := Tryz.func96.trans (congrArg some (by kernel_rfl))
  t0 := Tryz.underlying0
  a0 := Tryz.isAgg0
  z0 := Tryz.sizeOf0
  v0 := Tryz.zeroValue0
  t3 := Tryz.underlying3
  a3 := Tryz.isAgg3
  z3 := Tryz.sizeOf3
  v3 := Tryz.zeroValue3
  t4 := Tryz.underlying4
  a4 := Tryz.isAgg4
  z4 := Tryz.sizeOf4
  v4 := Tryz.zeroValue4
  t5 := Tryz.underlying5
  a5 := Tryz.isAgg5
  z5 := Tryz.sizeOf5
  v5 := Tryz.zeroValue5
  t9 := Tryz.underlying9
  a9 := Tryz.isAgg9
  z9 := Tryz.sizeOf9
  v9 := Tryz.zeroValue9
  t12 := Tryz.underlying12
  a12 := Tryz.isAgg12
  z12 := Tryz.sizeOf12
  v12 := Tryz.zeroValue12
  t46 := Tryz.underlying130
  a46 := Tryz.isAgg130
  z46 := Tryz.sizeOf130
  v46 := Tryz.zeroValue130
  t53 := Tryz.underlying82
  a53 := Tryz.isAgg82
  z53 := Tryz.sizeOf82
  v53 := Tryz.zeroValue82
  t119 := Tryz.underlying140
  a119 := Tryz.isAgg140
  z119 := Tryz.sizeOf140
  t138 := Tryz.underlying142
  a138 := Tryz.isAgg142
  z138 := Tryz.sizeOf142
  v138 := Tryz.zeroValue142
  t139 := Tryz.underlying143
  a139 := Tryz.isAgg143
  z139 := Tryz.sizeOf143
  v139 := Tryz.zeroValue143
  g3 := by kernel_rfl
  g4 := by kernel_rfl }
def Tryz.lays169_ren : Go.Shelf.Ren := ⟨fun | 169 => 52 | n => n, fun | 70 => 90 | 9 => 9 | 0 => 0 | 72 => 92 | 37 => 22 | 127 => 133 | 3 => 3 | 5 => 5 | n => n, fun | n => n⟩
theorem Tryz.lays169 : Go.Proofs.Lays.n169 Tryz.prog Tryz.lays169_ren := {
  mixed := by kernel_rfl
  f169 := Tryz.func52.trans (congrArg some (by kernel_rfl))
  t0 := Tryz.underlying0
  a0 := Tryz.isAgg0
  z0 := Tryz.sizeOf0
  v0 := Tryz.zeroValue0
  t3 := Tryz.underlying3
  a3 := Tryz.isAgg3
  z3 := Tryz.sizeOf3
  v3 := Tryz.zeroValue3
  t9 := Tryz.underlying9
  a9 := Tryz.isAgg9
  z9 := Tryz.sizeOf9
  v9 := Tryz.zeroValue9
  t37 := Tryz.underlying22
  a37 := Tryz.isAgg22
  z37 := Tryz.sizeOf22
  v37 := Tryz.zeroValue22
  t70 := Tryz.underlying90
  a70 := Tryz.isAgg90
  z70 := Tryz.sizeOf90
  v70 := Tryz.zeroValue90
  t72 := Tryz.underlying92
  a72 := Tryz.isAgg92
  z72 := Tryz.sizeOf92
  v72 := Tryz.zeroValue92
  t127 := Tryz.underlying133
  a127 := Tryz.isAgg133
  z127 := Tryz.sizeOf133
  v127 := Tryz.zeroValue133 }
theorem Tryz.Builder_Extra_169 : Builder.Extra Tryz.prog Tryz.lays169_ren := {
  sizeBuilder := by kernel_rfl
  liesBuilder := by kernel_rfl
  t5 := Tryz.underlying5
  a5 := Tryz.isAgg5
  z5 := Tryz.sizeOf5
  v5 := Tryz.zeroValue5
  infoByte := by kernel_rfl
  cellsByte := by kernel_rfl
  sizeByte := by kernel_rfl
  neB5 := by decide }
def Tryz.lays99_ren : Go.Shelf.Ren := ⟨fun | 99 => 177 | 206 => 193 | n => n, fun | 9 => 9 | 4 => 4 | 3 => 3 | n => n, fun | n => n⟩
theorem Tryz.lays99 : Go.Proofs.Lays.n99 Tryz.prog Tryz.lays99_ren := {
  mixed := by kernel_rfl
  f99 := Tryz.func177.trans (congrArg some (by kernel_rfl))
  f206 := Tryz.func193.trans (congrArg some (by kernel_rfl))
  t3 := Tryz.underlying3
  a3 := Tryz.isAgg3
  z3 := Tryz.sizeOf3
  v3 := Tryz.zeroValue3
  t4 := Tryz.underlying4
  a4 := Tryz.isAgg4
  z4 := Tryz.sizeOf4
  v4 := Tryz.zeroValue4
  t9 := Tryz.underlying9
  a9 := Tryz.isAgg9
  z9 := Tryz.sizeOf9
  v9 := Tryz.zeroValue9 }
end Go.Proofs
end
section
open Go Go.Vg Go.RowKit Go.Proofs Go.Proofs.YtcngoccnfmhhnaaGreatDoor
namespace Go.Proofs.YtcngoccnfmhhnaaGreatDoor
open Go.Ex

def escB : List UInt8 := [92, 34, 110]
theorem escaped_ok (w : World) (rb : Nat) (s : List UInt8) (i : Nat) (h : Rd w rb s i) :
    RetP Tryz.prog 176 ⟨[ptr rb]⟩ w (fun r w' => ∃ b, escP (s.drop i) = some (b, s.drop (i + 1)) ∧ r = U b ∧ Rd w' rb s (i + 1) ∧ Kp rb w w') (fun ch w' => escP (s.drop i) = none ∧ Bad ch ∧ Kp rb w w') := by
  have hs := h.hs
  have hi := h.hi
  refine ret_of_GP Tryz.func176 rfl Tryz.ntmps176 rfl ?_
  simp only [argEnv]
  refine rn ?_
  refine sBs' tb (bysC escB) ?_ (hkl := bysC_k _)
  intro v1 w1 ho1 hs1 hx1
  refine GL.cons (Step.markS tb rfl (Op1.of rfl (by first | exact fun _ => rfl | exact fun h => h | exact fun h => bL h | exact fun h => bL (bL h) | exact fun h => bL (bL (bL h)))) rfl rfl ho1 (by decide) rfl ?_)
  intro w2 hv2 hx2
  have hx02 : Ext w w2 := Below.trans hx1 hx2
  have hv2' : Sli w2 v1 1 (bysC escB) := hv2
  clear ho1 hs1 hx1 hx2
  refine rn ?_
  refine (G.loop (fun j : Nat => [(0, none, ptr rb), (2, none, U 0), (6, none, v1), (7, none, .int .i64 3), (8, none, .int .i64 j)]) (fun j W => Ext w2 W ∧ j ≤ 3 ∧ ∀ m, m < j → (s.drop i).head? ≠ some (escB.getD m 0)) (fun j => 3 - j) 0 (by repeat (first | exact Sub.nil _ | refine Sub.cons rfl ?_)) ⟨Ext.refl _, by omega, by omega⟩ ?_)
  rintro j W ⟨hx, hj, hno⟩
  have hx0 := hx02.trans hx
  have hr := h.to hx0
  have hv := hv2'.to hx
  clear hv2 hv2' hx02
  refine rn ?_
  first | refine G.condD rfl (fun hc => ?_) (fun hc => ?_) | refine G.condN rfl (fun hc => ?_) (fun hc => ?_) | refine G.cond rfl (fun hc => ?_) (fun hc => ?_)
  · have hj3 : j < 3 := by omega
    obtain ⟨c, hce⟩ : ∃ c, c = escB.getD j 0 := ⟨_, rfl⟩
    have hget : (bysC escB)[j]? = some [U c] := by rw [hce]; exact bysC_get (by simpa [escB] using hj3)
    have hl3 : (bysC escB).length = 3 := rfl
    try (first | refine gl tb ?_ | refine gg tb ?_ | refine ll tb ?_ | refine lg tb ?_); repeat ((first | refine G.condT rfl ?_ | refine G.condF rfl ?_ | refine sFa tb ?_ | refine sLd tb ?_ | refine sLa tb ?_ | refine sLen tb ?_ | refine sFd tb ?_ | refine sBd tb ?_ | refine sIa tb j ?_); try (first | refine gl tb ?_ | refine gg tb ?_ | refine ll tb ?_ | refine lg tb ?_))
    refine sCall c140 (is_ok c W rb s i hr) ?_
    rintro _ W2 ⟨rfl, hx2⟩
    have hr2 := hr.to hx2
    have hbx := hr2.bx
    refine rn ?_
    first | refine G.condD rfl (fun hc => ?_) (fun hc => ?_) | refine G.condN rfl (fun hc => ?_) (fun hc => ?_) | refine G.cond rfl (fun hc => ?_) (fun hc => ?_)
    · have hlt : i < s.length := by
        by_cases hlt : i < s.length
        · exact hlt
        · rw [drop_no hlt] at hc; simp at hc
      have hcb : s.getD i 0 = c := by
        rw [drop_at hlt] at hc; simpa using hc
      refine rn ?_
      refine sAd tb ?_
      refine rn ?_
      refine sSf tb (fun W3 hb3 hw3 => ?_)
      refine rn ?_
      refine G.condD rfl (fun hn => ?_) (fun hn => ?_)
      · refine rn ?_
        refine G.retP1 rfl rfl rfl rfl ?_
        refine ⟨10, ?_, rfl, hr2.at_ hb3 hw3 hlt, (hx0.trans hx2).kp.trans hw3.kp⟩
        rw [drop_at hlt, hcb]
        have h110 : c = 110 := by rw [← UInt8.toNat_inj]; show c.toNat = 110; omega
        rw [h110]; rfl
      · refine rn ?_
        refine G.retP1 rfl rfl rfl rfl ?_
        refine ⟨c, ?_, rfl, hr2.at_ hb3 hw3 hlt, (hx0.trans hx2).kp.trans hw3.kp⟩
        rw [drop_at hlt, hcb]
        have hcc : c = 92 ∨ c = 34 := by
          rcases (show j = 0 ∨ j = 1 ∨ j = 2 by omega) with rfl | rfl | rfl
          · exact .inl hce
          · exact .inr hce
          · exfalso; apply hn; rw [hce]; rfl
        rcases hcc with rfl | rfl <;> rfl
    · have hne := hc
      refine rn ?_
      refine sAd tb ?_
      refine rn ?_
      exact G.lp (x := j) (j + 1) (by repeat (first | exact Sub.nil _ | refine Sub.cons rfl ?_)) ⟨hx.trans hx2, by omega, fun m hm => by
        by_cases e : m = j
        · subst e; rw [← hce]; exact hne
        · exact hno m (by omega)⟩ (by omega)
  · have hl3 : ((bysC escB).length : Int) = 3 := rfl
    obtain rfl : j = 3 := by omega
    have hbx := hr.bx
    refine rn ?_
    refine sCallP c94 (fail_ok rb i 8 W (by decide)) (fun ch w' hz => px_P rfl rfl ?_) ?_
    · refine ⟨?_, hz.1, by rw [hz.2]; exact hx0.kp⟩
      have e0 : (s.drop i).head? ≠ some 92 := hno 0 (by omega)
      have e1 : (s.drop i).head? ≠ some 34 := hno 1 (by omega)
      have e2 : (s.drop i).head? ≠ some 110 := hno 2 (by omega)
      cases hd : s.drop i with
      | nil => rfl
      | cons c l =>
        rw [hd] at e0 e1 e2
        simp only [List.head?_cons, ne_eq, Option.some.injEq] at e0 e1 e2
        simp only [escP]
        rw [if_neg e0, if_neg e1, if_neg e2]
    · rintro _ _ ⟨⟩
abbrev Bld (w : World) (B b : Nat) (l : List UInt8) : Prop := Lib.IsBuilder 92 5 B b (Lib.byteCells l) w
theorem wbyte_ok (B b : Nat) (l : List UInt8) (c : UInt8) (w : World) (h : Bld w B b l) (hl : l.length + 1 ≤ 140737488355328) (hB : B ≤ w.heap.size) :
    Ret Tryz.prog 51 ⟨[ptr b, U c]⟩ w fun r w' => r = .nilIface ∧ Bld w' B b (l ++ [c]) ∧ Below B w w' :=
  Calls.mono (Any.Builder_WriteByte Tryz.lays167 Tryz.Builder_Extra_167 B b (Lib.byteCells l) c.toNat w h (by rw [Lib.byteCells_length]; exact hl) hB) fun _ _ ⟨he, h1, h2⟩ =>
    ⟨_, he, rfl, .inr (by rw [Lib.byteCells_append]; exact h1), h2⟩
theorem bstr_ok (B b : Nat) (l : List UInt8) (w : World) (h : Bld w B b l) (hB : B ≤ w.heap.size) :
    Ret Tryz.prog 52 ⟨[ptr b]⟩ w fun r w' => r = S l ∧ Below B w w' :=
  Calls.mono (Any.Builder_String_any Tryz.lays169 Tryz.Builder_Extra_169 B b l w h hB) fun _ _ ⟨he, h2⟩ => ⟨_, he, rfl, h2⟩
theorem Bld.keep {w w' : World} {B b : Nat} {l : List UInt8} (h : Bld w B b l) (hx : ∀ k, B ≤ k → k < w.heap.size → w'.heap[k]? = w.heap[k]?) : Bld w' B b l := by
  have key : ∀ p, Lib.BuilderAt 92 5 B b p (Lib.byteCells l) w → Lib.BuilderAt 92 5 B b p (Lib.byteCells l) w' := by
    rintro p ⟨hB, v, hb, ⟨hl, hr⟩, hn⟩
    refine ⟨hB, v, by rw [hx b hB (Array.getElem?_eq_some_iff.1 hb).1]; exact hb, ⟨hl, ?_⟩, hn⟩
    rcases hr with h | ⟨g, cap, cur, h1, h2, h3, h4⟩
    · exact .inl h
    · exact .inr ⟨g, cap, cur, h1, h2, by rw [hx g (by omega) (Array.getElem?_eq_some_iff.1 h3).1]; exact h3, h4⟩
  rcases h with h | h
  · exact .inl (key _ h)
  · exact .inr (key _ h)
theorem Bld.ext {w w' : World} {B b : Nat} {l : List UInt8} (h : Bld w B b l) (hx : Ext w w') : Bld w' B b l := h.keep fun k _ hk => hx.block k hk
theorem Bld.kp {w w' : World} {B b c : Nat} {l : List UInt8} (h : Bld w B b l) (hx : Kp c w w') (hc : c < B) : Bld w' B b l := h.keep fun k hB hk => hx.block k hk (by omega)
abbrev BldF (w : World) (B b : Nat) (l : List UInt8) : Prop := Lib.IsBuilderF 92 5 B b (Lib.byteCells l) w
theorem bstrF_ok (B b : Nat) (l : List UInt8) (w : World) (h : BldF w B b l) (hB : B ≤ w.heap.size) :
    Ret Tryz.prog 52 ⟨[ptr b]⟩ w fun r w' => r = S l ∧ BldF w' B b l ∧ Below B w w' :=
  Calls.mono (Any.Builder_String_any_f Tryz.lays169 Tryz.Builder_Extra_169 B b l w h hB) fun _ _ ⟨he, h2⟩ => ⟨_, he, rfl, h2⟩
theorem BldF.ext {w w' : World} {B b : Nat} {l : List UInt8} (h : BldF w B b l) (hx : Ext w w') : BldF w' B b l := by
  have key : ∀ p, Lib.BuilderAtF 92 5 B b p (Lib.byteCells l) w → Lib.BuilderAtF 92 5 B b p (Lib.byteCells l) w' := by
    rintro p ⟨hB, v, hb, ⟨hl, hr⟩, hn⟩
    refine ⟨hB, v, by rw [hx.block b (Array.getElem?_eq_some_iff.1 hb).1]; exact hb, ⟨hl, ?_⟩, hn⟩
    rcases hr with h | ⟨g, cap, cur, fz, h1, h2, h3, h4⟩
    · exact .inl h
    · exact .inr ⟨g, cap, cur, fz, h1, h2, by rw [hx.block g (Array.getElem?_eq_some_iff.1 h3).1]; exact h3, h4⟩
  rcases h with h | h
  · exact .inl (key _ h)
  · exact .inr (key _ h)
theorem kp_below {b : Nat} {w w1 w2 : World} (h : Kp b w w1) (k : Below w.heap.size w1 w2) : Kp b w w2 :=
  ⟨k.os.trans h.os, k.tape.trans h.tape, k.output.trans h.output, Nat.le_trans h.size k.size, fun i hi hne => (k.block i hi).trans (h.block i hi hne)⟩
theorem Rd.below {w w' : World} {B rb : Nat} {s : List UInt8} {i : Nat} (h : Rd w rb s i) (hx : Below B w w') (hB : rb < B) : Rd w' rb s i := by
  obtain ⟨⟨t, hb⟩, ⟨ht1, ht2⟩, h3, h4, h5⟩ := h
  have cl : ∀ {a : Addr} {u : Value}, a.block < B → w.cell? a = some u → w'.cell? a = some u := by
    intro a u ha hu
    unfold World.cell? at hu ⊢
    rw [hx.block a.block ha]; exact hu
  exact ⟨⟨t, by rw [hx.block rb hB]; exact hb⟩, ⟨fun c hc => cl (by show 2 < B; omega) (ht1 c hc), fun i hi => ⟨cl (by show 3 < B; omega) (ht2 i hi).1, cl (by show 3 < B; omega) (ht2 i hi).2⟩⟩, h3, h4, h5⟩
theorem validS_ok (s : List UInt8) (w : World) (hs : s.length ≤ 9223372036854775807) (hT : Tabs w) :
    Ret Tryz.prog 63 ⟨[S s]⟩ w fun v w' => v = .bool (Lib.validD s) ∧ Ext w w' :=
  Calls.mono (Any.utf8_ValidString Tryz.laysValid ⟨⟨s⟩⟩ w hs hT) fun _ _ ⟨he, hb⟩ => ⟨_, he, rfl, hb⟩
end Go.Proofs.YtcngoccnfmhhnaaGreatDoor
end
section
open Go Go.Vg Go.RowKit Go.Proofs Go.Proofs.YtcngoccnfmhhnaaGreatDoor
namespace Go.Proofs.YtcngoccnfmhhnaaGreatDoor
open Go.Ex

theorem quoP_drop {s : List UInt8} {i : Nat} (hi : i < s.length) (h : s.getD i 0 = 34) : quoP (s.drop i) = match quoGo ((s.drop (i + 1)).length + 1) [] (s.drop (i + 1)) with
    | none => none
    | some (o, r) => if Lib.validD o then some (o, r) else none := by
  rw [drop_at hi]
  simp only [quoP]
  rw [if_pos h]
  try (generalize quoGo _ _ _ = q; rcases q with _ | ⟨o, r⟩ <;> rfl)
theorem quoP_must {s : List UInt8} {i : Nat} (h : mustP 34 (s.drop i) = none) : quoP (s.drop i) = none := by
  cases hd : s.drop i with
  | nil => rfl
  | cons c l =>
    rw [hd] at h
    simp only [mustP] at h
    simp only [quoP]
    split at h
    · cases h
    · rename_i hne
      rw [if_neg hne]
theorem must_at {b : UInt8} {s : List UInt8} {i : Nat} (h : mustP b (s.drop i) = some (s.drop (i + 1))) : i < s.length ∧ s.getD i 0 = b := by
  by_cases hlt : i < s.length
  · refine ⟨hlt, ?_⟩
    rw [drop_at hlt] at h
    simp only [mustP] at h
    split at h
    · assumption
    · cases h
  · rw [drop_no hlt] at h; cases h
theorem quoted_ok (w : World) (rb : Nat) (s : List UInt8) (i : Nat) (h : Rd w rb s i) :
    RetP Tryz.prog 160 ⟨[ptr rb]⟩ w (fun r w' => ∃ v i', quoP (s.drop i) = some (v, s.drop i') ∧ r = S v ∧ Rd w' rb s i' ∧ Kp rb w w') (fun ch w' => quoP (s.drop i) = none ∧ Bad ch ∧ Kp rb w w') := by
  have hs := h.hs
  have hi := h.hi
  have hbx := h.bx
  refine ret_of_GP Tryz.func160 rfl Tryz.ntmps160 rfl ?_
  simp only [argEnv]
  refine rn ?_
  refine sCallP c159 (must_ok 34 w rb s i h) (fun ch w' hz => px_P rfl rfl ?_) ?_
  · exact ⟨quoP_must hz.1, hz.2.1, hz.2.2⟩
  rintro _ W1 ⟨hm, hr1, hk1⟩
  obtain ⟨hlt0, hq0⟩ := must_at hm
  have hquo := quoP_drop hlt0 hq0
  clear hbx hm
  have hrb : rb < W1.heap.size := hr1.bx.lt
  refine rn ?_
  refine GL.cons (Step.allocE tb rfl rfl rfl rfl ?_)
  have hx1 : Ext W1 (W1.alloc (.cells ⟨[.pointer none, .slice none 0 0]⟩ 92)) := Ext.alloc _ _
  have hb1 : Bld (W1.alloc (.cells ⟨[.pointer none, .slice none 0 0]⟩ 92)) W1.heap.size W1.heap.size [] :=
    .inl ⟨Nat.le_refl _, _, heap_alloc_new _ _, World.ownsRow_nil _ _ _ _, by simp [Value.ownBlock]⟩
  generalize W1.alloc (.cells ⟨[.pointer none, .slice none 0 0]⟩ 92) = W2 at hx1 hb1 ⊢
  refine rn ?_
  refine (G.loop (fun k : Nat => [(0, none, ptr rb), (2, none, S []), (3, none, .int .i64 i), (4, none, ptr W1.heap.size)]) (fun k W => Rd W rb s k ∧ Kp rb W1 W ∧ ∃ out, Bld W W1.heap.size W1.heap.size out ∧ out.length ≤ k ∧ quoGo ((s.drop (i + 1)).length + 1) [] (s.drop (i + 1)) = quoGo ((s.drop k).length + 1) out (s.drop k)) (fun k => s.length - k) (i + 1) (by repeat (first | exact Sub.nil _ | refine Sub.cons rfl ?_)) ⟨hr1.to hx1, hx1.kp, [], hb1, by simp, rfl⟩ ?_)
  clear hb1 hx1
  rintro k W ⟨hr, hk, out, hb, hol, he⟩
  have hbx := hr.bx
  have hkl := hr.hi
  refine rn ?_
  refine sCall c140 (is_ok 34 W rb s k hr) ?_
  rintro _ W3 ⟨rfl, hx3⟩
  have hr3 := hr.to hx3
  have hb3 := hb.ext hx3
  have hk3 := hk.trans hx3.kp
  have hbx := hr3.bx
  refine rn ?_
  first | refine G.condD rfl (fun hc => ?_) (fun hc => ?_) | refine G.condN rfl (fun hc => ?_) (fun hc => ?_) | refine G.cond rfl (fun hc => ?_) (fun hc => ?_)
  · have hne := hc
    refine rn ?_
    refine G.regionM [(0, true), (1, true), (2, true), (3, true), (4, true), (5, true), (6, true), (7, true), (8, true), (9, true)] (Ext W3) (by kernel_rfl) (by kernel_rfl) rfl mixed (Ext.drew W3) rfl ?_
    refine rd ?_
    refine GM.nil ?_
    first | refine G.condD rfl (fun hc => ?_) (fun hc => ?_) | refine G.condN rfl (fun hc => ?_) (fun hc => ?_) | refine G.cond rfl (fun hc => ?_) (fun hc => ?_)
    · have hlt : ¬ k < s.length := by omega
      refine rn ?_
      refine sCallP c94 (fail_ok rb k 8 W3.drew (by decide)) (fun ch w' hz => px_P rfl rfl ?_) ?_
      · refine ⟨?_, hz.1, by rw [hz.2]; exact hk1.trans (hk3.trans (Ext.drew W3).kp)⟩
        rw [hquo, he, drop_no hlt]; rfl
      · rintro _ _ ⟨⟩
    · have hlt : k < s.length := by omega
      have hr4 := hr3.to (Ext.drew W3)
      have hbx := hr4.bx
      refine rn ?_
      refine G.regionM [(0, true), (1, true), (2, true), (3, true), (4, true), (5, true), (6, true), (7, true), (8, true), (9, true)] (Ext W3.drew) (by kernel_rfl) (by kernel_rfl) rfl mixed (Ext.drew W3.drew) rfl ?_
      refine rd ?_
      refine dBs tb k ?_ (hj := fun _ => ⟨rfl, by omega⟩)
      refine rd ?_
      refine GM.nil ?_
      have hx35 := (Ext.drew W3).trans (Ext.drew W3.drew)
      have hr5 := hr3.to hx35
      have hb5 := hb3.ext hx35
      have hk5 := hk3.trans hx35.kp
      have hbx := hr5.bx
      refine rn ?_
      refine sAd tb ?_
      refine rn ?_
      refine sSf tb (fun W6 hb6 hw6 => ?_)
      have hr6 := hr5.at_ hb6 hw6 hlt
      have hbl6 := hb5.kp hw6.kp hrb
      have hk6 := hk5.trans hw6.kp
      rw [drop_at hlt] at hne he
      generalize hce : s.getD k 0 = c at hne he ⊢
      have hc34 : c ≠ 34 := by simpa using hne
      refine rn ?_
      refine G.join (fun x : Nat × UInt8 => [(0, none, ptr rb), (2, none, S []), (3, none, .int .i64 i), (4, none, ptr W1.heap.size), (5, none, U x.2)]) (fun x W' => Rd W' rb s x.1 ∧ Kp rb W1 W' ∧ Bld W' W1.heap.size W1.heap.size out ∧ k < x.1 ∧ quoGo ((s.drop (i + 1)).length + 1) [] (s.drop (i + 1)) = quoGo ((s.drop x.1).length + 1) (out ++ [x.2]) (s.drop x.1)) ?_ ?_
      · rintro ⟨k', c'⟩ W7 ⟨hr7, hk7, hb7, hkk, he7⟩
        simp only at hr7 hkk he7 ⊢
        have hkl7 := hr7.hi
        refine rn ?_
        refine sCall c51 (wbyte_ok W1.heap.size W1.heap.size out c' W7 hb7 (by omega) hk7.size) ?_
        rintro _ W8 ⟨rfl, hb8, hx8⟩
        refine rn ?_
        exact G.lp (x := k) k' (by repeat (first | exact Sub.nil _ | refine Sub.cons rfl ?_)) ⟨hr7.below hx8 hrb, kp_below hk7 hx8, _, hb8, by rw [List.length_append, List.length_cons, List.length_nil]; omega, he7⟩ (by omega)
      · have hgo : quoGo ((c :: s.drop (k + 1)).length + 1) out (c :: s.drop (k + 1)) = if c = 92 then match escP (s.drop (k + 1)) with
            | none => none
            | some (b, r) => quoGo ((s.drop (k + 1)).length + 1) (out ++ [b]) r
            else quoGo ((s.drop (k + 1)).length + 1) (out ++ [c]) (s.drop (k + 1)) := by
          rw [List.length_cons]
          simp only [quoGo]
          rw [if_neg hc34]
          try (generalize escP _ = q; rcases q with _ | ⟨o, r⟩ <;> rfl)
        rw [hgo] at he
        first | refine G.condD rfl (fun hc => ?_) (fun hc => ?_) | refine G.condN rfl (fun hc => ?_) (fun hc => ?_) | refine G.cond rfl (fun hc => ?_) (fun hc => ?_)
        · have h92 : c = 92 := by rw [← UInt8.toNat_inj]; show c.toNat = 92; omega
          rw [if_pos h92] at he
          refine rn ?_
          refine sCallP c176 (escaped_ok W6 rb s (k + 1) hr6) (fun ch w' hz => px_P rfl rfl ?_) ?_
          · refine ⟨?_, hz.2.1, hk1.trans (hk6.trans hz.2.2)⟩
            rw [hquo, he, hz.1]
          · rintro _ W7 ⟨b, hes, rfl, hr7, hk7⟩
            rw [hes] at he
            simp only at he
            refine rn ?_
            refine G.met (k + 1 + 1, b) (by repeat (first | exact Sub.nil _ | refine Sub.cons rfl ?_)) ⟨hr7, hk6.trans hk7, hbl6.kp hk7 hrb, by show k < k + 1 + 1; omega, ?_⟩
            rw [he]
            show _ = quoGo ((s.drop (k + 1 + 1)).length + 1) (out ++ [b]) (s.drop (k + 1 + 1))
            have := escP_len hes
            exact quoGo_fuel _ _ _ _ _ (Nat.le_refl _) (by omega) (by omega)
        · have h92 : ¬ c = 92 := by
            intro h92; subst h92; apply hc; rfl
          rw [if_neg h92] at he
          refine rn ?_
          exact G.met (k + 1, c) (by repeat (first | exact Sub.nil _ | refine Sub.cons rfl ?_)) ⟨hr6, hk6, hbl6, by show k < k + 1; omega, he⟩
  · have hq : (s.drop k).head? = some 34 := by simpa using hc
    have hlt : k < s.length := by
      by_cases hlt : k < s.length
      · exact hlt
      · rw [drop_no hlt] at hq; cases hq
    have he34 : quoGo ((s.drop k).length + 1) out (s.drop k) = some (out, s.drop (k + 1)) := by
      rw [drop_at hlt] at hq ⊢
      have : s.getD k 0 = 34 := by simpa using hq
      rw [List.length_cons]
      simp only [quoGo]
      rw [if_pos this]
    rw [he, he34] at hquo
    simp only at hquo
    refine rn ?_
    refine sAd tb ?_
    refine rn ?_
    refine sSf tb (fun W6 hb6 hw6 => ?_)
    have hr6 := hr3.at_ hb6 hw6 hlt
    have hbl6 := hb3.kp hw6.kp hrb
    have hk6 := hk3.trans hw6.kp
    refine rn ?_
    refine sCall c52 (bstrF_ok W1.heap.size W1.heap.size out W6 (Lib.IsBuilderF.of hbl6) hk6.size) ?_
    rintro _ W7 ⟨rfl, hb7, hx7⟩
    have hr7 := hr6.below hx7 hrb
    have hk7 := kp_below hk6 hx7
    refine rn ?_
    refine sCall c63 (validS_ok out W7 (by have := hr6.hi; omega) hr7.tabs) ?_
    rintro _ W8 ⟨rfl, hx8⟩
    have hr8 := hr7.to hx8
    have hk8 := hk7.trans hx8.kp
    have hb8 := BldF.ext hb7 hx8
    cases hv : Lib.validD out
    · rw [hv] at hquo
      refine rn ?_
      refine sCallP c94 (fail_ok rb i 8 W8 (by decide)) (fun ch w' hz => px_P rfl rfl ?_) ?_
      · exact ⟨hquo, hz.1, by rw [hz.2]; exact hk1.trans hk8⟩
      · rintro _ _ ⟨⟩
    · rw [hv] at hquo
      refine rn ?_
      refine sCall c52 (bstrF_ok W1.heap.size W1.heap.size out W8 hb8 hk8.size) ?_
      rintro _ W9 ⟨rfl, hb9, hx9⟩
      refine rn ?_
      refine G.retP1 rfl rfl rfl rfl ?_
      exact ⟨out, k + 1, hquo, rfl, hr8.below hx9 hrb, hk1.trans (kp_below hk8 hx9)⟩
end Go.Proofs.YtcngoccnfmhhnaaGreatDoor
end
section
namespace Go.Vg
open Go.RowKit

abbrev TV := List (List UInt8 × Value)
def vget : TV → List UInt8 → Option Value
  | [], _ => none
  | p :: r, x => if p.1 = x then some p.2 else vget r x
def vput : TV → List UInt8 → Value → TV
  | [], x, y => [(x, y)]
  | p :: r, x, y => if p.1 = x then (x, y) :: r else p :: vput r x y
def mvC (es : TV) : List (Value × Value) := es.map fun p => (S p.1, p.2)
/-- block b is a map of texts by texts -/
def Mv (w : World) (b : Nat) (es : TV) : Prop := ∃ ms clock, w.heap[b]? = some (.map ⟨ms⟩ clock) ∧ ms.map (fun e => (e.key, e.val)) = mvC es
theorem Mv.lt {w : World} {b : Nat} {es : TV} (h : Mv w b es) : b < w.heap.size := by
  obtain ⟨ms, clock, h, _⟩ := h; exact (Array.getElem?_eq_some_iff.1 h).1
theorem Mv.to {w w' : World} {b : Nat} {es : TV} (h : Mv w b es) (hx : Ext w w') : Mv w' b es := by
  obtain ⟨ms, clock, h, h2⟩ := h
  exact ⟨ms, clock, by rw [hx.block b (Array.getElem?_eq_some_iff.1 h).1]; exact h, h2⟩
theorem Mv.wr {w w' : World} {b b' : Nat} {es : TV} (h : Mv w b es) (hw : Wr b' w w') (hne : b ≠ b') : Mv w' b es := by
  obtain ⟨ms, clock, h, h2⟩ := h
  exact ⟨ms, clock, by rw [hw.block b hne]; exact h, h2⟩

theorem findNow_V (x : List UInt8) : ∀ (ms : List MapEntry) (es : TV) (i : Nat), ms.map (fun e => (e.key, e.val)) = mvC es →
    (Instr.findNow .string (S x) ms i = some none ∧ vget es x = none ∧ (∀ y, vput es x y = es ++ [(x, y)])) ∨
    ∃ j e v, Instr.findNow .string (S x) ms i = some (some (i + j, v)) ∧ vget es x = some v ∧ ms[j]? = some e ∧ e.key = S x ∧ ∀ y, vput es x y = es.set j (x, y)
  | [], [], i, _ => .inl ⟨rfl, rfl, fun _ => rfl⟩
  | [], _ :: _, _, h => by cases h
  | _ :: _, [], _, h => by cases h
  | e :: ms, p :: es, i, h => by
    simp only [mvC, List.map_cons, List.cons.injEq, Prod.mk.injEq] at h
    obtain ⟨⟨hk, hv⟩, hr⟩ := h
    by_cases hx : p.1 = x
    · refine .inr ⟨0, e, p.2, ?_, by simp [vget, hx], rfl, by rw [hk, hx], fun y => by simp [vput, hx]⟩
      simp only [Instr.findNow, hk, sameNow_S, decide_eq_true hx.symm, hv, Nat.add_zero]
    · have hx' : ¬ x = p.1 := fun q => hx q.symm
      have hf : Instr.findNow .string (S x) (e :: ms) i = Instr.findNow .string (S x) ms (i + 1) := by
        simp only [Instr.findNow, hk, sameNow_S, decide_eq_false hx']
      rcases findNow_V x ms es (i + 1) hr with ⟨h1, h2, h3⟩ | ⟨j, e', v, h1, h2, h3, h4, h5⟩
      · exact .inl ⟨by rw [hf, h1], by simp [vget, hx, h2], fun y => by simp [vput, hx, h3]⟩
      · exact .inr ⟨j + 1, e', v, by rw [hf, h1, show i + 1 + j = i + (j + 1) by omega], by simp [vget, hx, h2], by simpa using h3, h4, fun y => by simp [vput, hx, h5]⟩

section
variable {X : Cx} {ops : Array Oper} {e : Env} {w : World} {N : Env → World → Prop} {d : Nat} {c : Option Bool} {ty : TypeId} {pos : String} {af : Array Edge} {g : Option (Nat × Bool)}
theorem Step.makeMapV {t : TypeId} (hg : guardE ops e ⟨some d, .makeMap t none, ty, pos, af, g⟩ = some none) (hn : Nat.blt d X.n = true)
    (h : ∀ w', Mv w' w.heap.size [] → w'.heap.size = w.heap.size + 1 → Ext w w' → N ((d, none, .map (some w.heap.size)) :: e) w') : Step X ops ⟨some d, .makeMap t none, ty, pos, af, g⟩ e w N :=
  Step.eff (v := .map (some w.heap.size)) (w' := w.alloc (.map #[] 0)) rfl (by simpa [Nat.blt_eq] using hn) hg (fun _ hh => by cases hh) (fun t' _ => rfl)
    (h _ ⟨[], 0, heap_alloc_new _ _, rfl⟩ (by simp) (Ext.alloc _ _))

theorem Step.lookupMV (T : Tb X.P) {x i : Operand} {t kt et : TypeId} {b s by_ : Nat} {k : List UInt8} {es : TV} {ok : Bool} {z : Value}
    (hg : guardE ops e ⟨some d, .lookup t x i ok, ty, pos, af, g⟩ = some c) (hx : Op1 e c x (.map (some b))) (hi : Op1 e c i (S k)) (ht : T.ty t = some (.map kt et)) (hk : T.ty kt = some .string) (hz : T.inf et = some (z, s, by_))
    (hm : cv c = true → Mv w b es) (hn : Nat.blt d X.n = true)
    (h : N ((d, c, match ok with | true => .tuple ⟨[(vget es k).getD z, .bool (vget es k).isSome]⟩ | false => (vget es k).getD z) :: e) w) : Step X ops ⟨some d, .lookup t x i ok, ty, pos, af, g⟩ e w N :=
  Step.quiet rfl (by simpa [Nat.blt_eq] using hn) hg (fun _ hh => by cases hh) (fun t' hf hc => by
    obtain ⟨ms, clock, hb, he⟩ := hm hc
    obtain ⟨inf, hi1, hi2, _⟩ := T.iok _ _ _ _ hz
    have hck := fun (em : Bool) => MapKept.run_checkKey (P := X.P) (w := w) (T.ok _ _ hk) (isKeyS k) em 9999
    simp only [execOp, hx.val hf hc, hi.val hf hc, Instr.lookup, Sem.run_bind, run_underlying (T.ok _ _ ht), Result.andThen_ok, MapKept.run_getObj_map hb, Sem.run_pure, hck]
    rcases findNow_V k ms es 0 he with ⟨h1, h2, _⟩ | ⟨j, e0, v, h1, h2, _, _, _⟩
    · have hf1 := MapKept.run_findKey (P := X.P) (w := w) (T.ok _ _ hk) h1
      simp only [hf1, Result.andThen_ok, Sem.run_bind, zeroValue, typeInfo, run_program, hi1, hi2, Sem.run_pure, h2]
      cases ok <;> rfl
    · have hf1 := MapKept.run_findKey (P := X.P) (w := w) (T.ok _ _ hk) h1
      simp only [hf1, Result.andThen_ok, Sem.run_pure, h2]
      cases ok <;> rfl) h

theorem Step.mapUpdateV (T : Tb X.P) {x i y : Operand} {t kt et : TypeId} {b : Nat} {k : List UInt8} {v : Value} {es : TV}
    (hg : guardE ops e ⟨none, .mapUpdate t x i y, ty, pos, af, g⟩ = some none) (hx : Op1 e none x (.map (some b))) (hi : Op1 e none i (S k)) (hy : Op1 e none y v) (ht : T.ty t = some (.map kt et)) (hk : T.ty kt = some .string)
    (hm : Mv w b es) (h : ∀ w', Mv w' b (vput es k v) → Wr b w w' → N e w') : Step X ops ⟨none, .mapUpdate t x i y, ty, pos, af, g⟩ e w N := by
  obtain ⟨ms, clock, hb, he⟩ := hm
  have hck := MapKept.run_checkKey (P := X.P) (w := w) (T.ok _ _ hk) (isKeyS k) false 9999
  have hwr : ∀ o, Wr b w { w with heap := w.heap.setIfInBounds b o } := fun o => ⟨rfl, rfl, rfl, by simp, fun r' hne => (MapKept.heap_set hb).2 r' hne⟩
  rcases findNow_V k ms es 0 he with ⟨h1, h2, h3⟩ | ⟨j, e0, v0, h1, h2, h3, h4, h5⟩
  · have hf1 := MapKept.run_findKey (P := X.P) (w := w) (T.ok _ _ hk) h1
    refine Step.effNone (w' := { w with heap := w.heap.setIfInBounds b (.map ((⟨ms⟩ : Array MapEntry).push { key := S k, val := v, born := clock }) (clock + 1)) }) rfl hg (fun _ hh => by cases hh) (fun t' hf => ?_) (h _ ⟨ms ++ [{ key := S k, val := v, born := clock }], clock + 1, ?_, ?_⟩ (hwr _))
    · simp only [execOp, hx.val hf rfl, hi.val hf rfl, hy.val hf rfl, Instr.mapUpdate, Sem.run_bind, run_underlying (T.ok _ _ ht), Result.andThen_ok, MapKept.run_getObj_map hb, hck, hf1, MapKept.run_setObj_map _ hb, Sem.run_pure]
    · have := (MapKept.heap_set (o' := .map ((⟨ms⟩ : Array MapEntry).push { key := S k, val := v, born := clock }) (clock + 1)) hb).1
      simpa using this
    · rw [h3, List.map_append, he]; simp [mvC]
  · have hf1 := MapKept.run_findKey (P := X.P) (w := w) (T.ok _ _ hk) h1
    have hst := MapKept.run_keyThatStays (P := X.P) (w := w) (isKeyS k)
    have hj : ((⟨ms⟩ : Array MapEntry)[j]?) = some e0 := by simpa using h3
    refine Step.effNone (w' := { w with heap := w.heap.setIfInBounds b (.map ((⟨ms⟩ : Array MapEntry).modify j fun e => { e with key := S k, val := v }) clock) }) rfl hg (fun _ hh => by cases hh) (fun t' hf => ?_) (h _ ⟨((⟨ms⟩ : Array MapEntry).modify j fun e => { e with key := S k, val := v }).toList, clock, ?_, ?_⟩ (hwr _))
    · simp only [execOp, hx.val hf rfl, hi.val hf rfl, hy.val hf rfl, Instr.mapUpdate, Sem.run_bind, run_underlying (T.ok _ _ ht), Result.andThen_ok, MapKept.run_getObj_map hb, hck, hf1, Nat.zero_add, hj, Option.map_some, Option.getD_some, h4, hst, MapKept.run_setObj_map _ hb, Sem.run_pure]
    · exact (MapKept.heap_set hb).1
    · rw [h5]
      apply List.ext_getElem?
      intro i
      have hi := congrArg (fun l => l[i]?) he
      simp only [List.getElem?_map, mvC] at hi
      simp only [List.getElem?_map, Array.getElem?_toList, Array.getElem?_modify, mvC, List.getElem?_set]
      have hlen : ms.length = es.length := by have := congrArg List.length he; simpa [mvC] using this
      have hjl : j < es.length := by rw [← hlen]; exact (List.getElem?_eq_some_iff.1 h3).1
      by_cases hij : j = i
      · subst hij
        rw [if_pos rfl, if_pos rfl, if_pos hjl]
        rw [show ((⟨ms⟩ : Array MapEntry)[j]?) = some e0 from hj]
        rfl
      · rw [if_neg hij, if_neg hij]
        simpa using hi
end
section
variable {X : Cx} {ops : Array Oper} {l : List Oper} {k : List Kt} {e : Env} {w : World} {d : Nat} {c : Option Bool} {ty : TypeId} {pos : String} {af : Array Edge} {g : Option (Nat × Bool)}
theorem sMkV {t : TypeId} (h : ∀ w', Mv w' w.heap.size [] → w'.heap.size = w.heap.size + 1 → Ext w w' → GL X ops l k ((d, none, .map (some w.heap.size)) :: e) w')
    (hg : guardE ops e ⟨some d, .makeMap t none, ty, pos, af, g⟩ = some none := by exact rfl) (hn : Nat.blt d X.n = true := by exact rfl) :
    GL X ops (⟨some d, .makeMap t none, ty, pos, af, g⟩ :: l) k e w := GL.cons (Step.makeMapV hg hn h)
theorem sLkV (T : Tb X.P) {x i : Operand} {t kt et : TypeId} {b s by_ : Nat} {key : List UInt8} {es : TV} {z : Value}
    (h : GL X ops l k ((d, c, (vget es key).getD z) :: e) w)
    (hg : guardE ops e ⟨some d, .lookup t x i false, ty, pos, af, g⟩ = some c := by exact rfl) (hx : Op1 e c x (.map (some b)) := by exact Op1.of rfl (by first | exact fun _ => rfl | exact fun h => h | exact fun h => bL h | exact fun h => bL (bL h))) (hi : Op1 e c i (S key) := by exact Op1.of rfl (by first | exact fun _ => rfl | exact fun h => h | exact fun h => bL h | exact fun h => bL (bL h))) (ht : T.ty t = some (.map kt et) := by exact rfl) (hk : T.ty kt = some .string := by exact rfl) (hz : T.inf et = some (z, s, by_) := by exact rfl)
    (hm : cv c = true → Mv w b es := by intro _; assumption) (hn : Nat.blt d X.n = true := by exact rfl) :
    GL X ops (⟨some d, .lookup t x i false, ty, pos, af, g⟩ :: l) k e w := GL.cons (Step.lookupMV T hg hx hi ht hk hz hm hn h)
theorem sMuV (T : Tb X.P) {x i y : Operand} {t kt et : TypeId} {b : Nat} {key : List UInt8} {v : Value} {es : TV}
    (h : ∀ w', Mv w' b (vput es key v) → Wr b w w' → GL X ops l k e w') (hm : Mv w b es)
    (hg : guardE ops e ⟨none, .mapUpdate t x i y, ty, pos, af, g⟩ = some none := by exact rfl) (hx : Op1 e none x (.map (some b)) := by exact Op1.of rfl (by first | exact fun _ => rfl | exact fun h => h | exact fun h => bL h | exact fun h => bL (bL h))) (hi : Op1 e none i (S key) := by exact Op1.of rfl (by first | exact fun _ => rfl | exact fun h => h | exact fun h => bL h | exact fun h => bL (bL h))) (hy : Op1 e none y v := by exact Op1.of rfl (by first | exact fun _ => rfl | exact fun h => h | exact fun h => bL h | exact fun h => bL (bL h))) (ht : T.ty t = some (.map kt et) := by exact rfl) (hk : T.ty kt = some .string := by exact rfl) :
    GL X ops (⟨none, .mapUpdate t x i y, ty, pos, af, g⟩ :: l) k e w := GL.cons (Step.mapUpdateV T hg hx hi hy ht hk hm h)
end
end Go.Vg
end
section
namespace Go.Vg
open Go.RowKit
theorem G.scopeP {X : Cx} {k : List Kt} {e : Env} {w : World} {c : Code} {P : Program} {fn : Func} {S : Value → World → Prop} {Z : List PanicEntry → World → Prop} (hX : X.fin = retFinP P fn S Z) (hr : X.ρ = none) (h : G X (.code c :: k) e w) : G X (.code (.scope c) :: k) e w := by
  intro t ht
  have h1 := h t ht
  simp only [post] at h1 ⊢
  rw [hr] at h1 ⊢
  refine (wpIn_wide (n := 0)).2 (wp_scope_straight ((wpIn_wide (n := 0)).1 (wpIn_mono h1 ?_)))
  intro ex a w' hq
  cases ex with
  | goto l =>
    have := post_goto hq
    rw [hX] at this
    exact this.elim
  | _ => exact hq
theorem vget_same : ∀ (es : TV) (x : List UInt8) (y : Value), vget (vput es x y) x = some y
  | [], x, y => by simp [vput, vget]
  | p :: r, x, y => by
    by_cases h : p.1 = x
    · simp [vput, vget, h]
    · simp [vput, vget, h, vget_same r x y]
theorem vget_other : ∀ (es : TV) (x m : List UInt8) (y : Value), m ≠ x → vget (vput es x y) m = vget es m
  | [], x, m, y, h => by simp [vput, vget, Ne.symm h]
  | p :: r, x, m, y, h => by
    by_cases hp : p.1 = x
    · subst hp; simp [vput, vget, Ne.symm h]
    · simp only [vput, hp, if_false, vget, vget_other r x m y h]
theorem Mv.kept {w w' : World} {b : Nat} {es : TV} (h : Mv w b es) (hx : w'.heap[b]? = w.heap[b]?) : Mv w' b es := by
  obtain ⟨ms, clock, h, h2⟩ := h
  exact ⟨ms, clock, by rw [hx]; exact h, h2⟩
theorem Mv.kp {w w' : World} {b c : Nat} {es : TV} (h : Mv w b es) (hx : Kp c w w') (hne : b ≠ c) : Mv w' b es := h.kept (hx.block b h.lt hne)
theorem Mv.below {w w' : World} {b B : Nat} {es : TV} (h : Mv w b es) (hx : Below B w w') (hb : b < B) : Mv w' b es := h.kept (hx.block b hb)
theorem Bx.below {w w' : World} {b B : Nat} {us : List Value} (h : Bx w b us) (hx : Below B w w') (hb : b < B) : Bx w' b us := by
  obtain ⟨t, h⟩ := h
  exact ⟨t, by rw [hx.block b hb]; exact h⟩
theorem Grew.bl {B : Nat} {v : Value} {w w' : World} (h : Grew B v w w') : Below B w w' := h.below w (Below.refl _ _)
end Go.Vg
end
section
open Go Go.Vg Go.RowKit Go.Proofs Go.Proofs.YtcngoccnfmhhnaaGreatDoor
namespace Go.Proofs.YtcngoccnfmhhnaaGreatDoor.Lab

/-- a leading byte: how many bytes, its bits, the least number that so many bytes may say -/
def lead (b : Int) : Option (Nat × Int × Int) :=
  if 240 ≤ b ∧ b < 248 then some (4, b - 240, 65536) else if 224 ≤ b ∧ b < 240 then some (3, b - 224, 2048) else if 192 ≤ b ∧ b < 224 then some (2, b - 192, 128)
  else if 128 ≤ b then none else some (1, b, 0)
def byteI (s : List UInt8) (i : Nat) : Int := ((s.getD i 0).toNat : Int)
/-- the number behind j further bytes -/
def contTo (s : List UInt8) (i : Nat) (c : Int) : Nat → Option Int
  | 0 => some c
  | j + 1 => match contTo s i c j with
    | none => none
    | some c => if byteI s (i + (j + 1)) < 128 ∨ 192 ≤ byteI s (i + (j + 1)) then none else some (64 * c + byteI s (i + (j + 1)) - 128)
def badRune (c least : Int) : Bool := decide (c < least) || decide (1114111 < c) || decide (55296 ≤ c) && decide (c ≤ 57343)
def u8n (s : List UInt8) (i : Nat) (n : Nat) (c least : Int) : Nat :=
  if s.length < i + n then 0 else match contTo s i c (n - 1) with
    | none => 0
    | some c => if badRune c least = true then 0 else n
/-- how many bytes the character has that begins at i -/
def u8len (s : List UInt8) (i : Nat) : Nat :=
  match lead (byteI s i) with
  | none => 0
  | some (n, c, least) => u8n s i n c least

end Go.Proofs.YtcngoccnfmhhnaaGreatDoor.Lab
end
section
open Go Go.Vg Go.RowKit Go.Proofs Go.Proofs.YtcngoccnfmhhnaaGreatDoor
namespace Go.Proofs.YtcngoccnfmhhnaaGreatDoor.Lab

/-- a letter or an underscore -/
def lett (c : UInt8) : Bool := decide ((97 : Int) ≤ c.toNat) && decide ((c.toNat : Int) ≤ 122) || decide ((65 : Int) ≤ c.toNat) && decide ((c.toNat : Int) ≤ 90) || decide ((c.toNat : Int) = 95)
def digitC (c : UInt8) : Bool := decide ((48 : Int) ≤ c.toNat) && decide ((c.toNat : Int) ≤ 57)
def namedC (colons : Bool) (i : Nat) (c : UInt8) : Bool := lett c || decide ((c.toNat : Int) = 58) && colons || digitC c && decide ((0 : Int) < i)
def namedTo (colons : Bool) (s : List UInt8) (n : Nat) : Prop := ∀ i, i < n → namedC colons i (s.getD i 0) = true
instance (colons : Bool) (s : List UInt8) (n : Nat) : Decidable (namedTo colons s n) := by unfold namedTo; infer_instance
def namedB (colons : Bool) (s : List UInt8) : Bool := decide (namedTo colons s s.length) && (!decide (s = []) && decide ((s.length : Int) ≤ 1024))

theorem namedTo_succ {colons : Bool} {s : List UInt8} {n : Nat} (h : namedTo colons s n) (hc : namedC colons n (s.getD n 0) = true) : namedTo colons s (n + 1) := by
  intro i hi
  by_cases e : i = n
  · subst e; exact hc
  · exact h i (by omega)

theorem namedB_no {colons : Bool} {s : List UInt8} {n : Nat} (hn : n < s.length) (hc : namedC colons n (s.getD n 0) = false) : namedB colons s = false := by
  have : ¬ namedTo colons s s.length := fun h => by rw [h n hn] at hc; cases hc
  simp [namedB, this]
theorem namedB_end {colons : Bool} {s : List UInt8} (h : namedTo colons s s.length) : namedB colons s = (!decide (s = []) && decide ((s.length : Int) ≤ 1024)) := by
  simp [namedB, h]

theorem named_ok (s : List UInt8) (b : Bool) (w : World) (hs : s.length ≤ 9223372036854775807) :
    Ret Tryz.prog 95 ⟨[S s, .bool b]⟩ w fun v w' => v = .bool (namedB b s) ∧ w' = w := by
  refine ret_of_G Tryz.func95 rfl Tryz.ntmps95 rfl ?_
  simp only [argEnv]
  refine rg ?_
  refine (G.loop (fun k : Nat => [(0, none, S s), (1, none, .bool b), (8, none, .int .i64 s.length), (9, none, .int .i64 k)]) (fun k w' => w' = w ∧ k ≤ s.length ∧ namedTo b s k) (fun k => s.length - k) 0 (by repeat (first | exact Sub.nil _ | refine Sub.cons rfl ?_)) ⟨rfl, by omega, fun i hi => by omega⟩ ?_)
  rintro k w ⟨rfl, hk, hto⟩
  refine rg ?_
  first | refine G.condD rfl (fun hc => ?_) (fun hc => ?_) | refine G.condN rfl (fun hc => ?_) (fun hc => ?_) | refine G.cond rfl (fun hc => ?_) (fun hc => ?_)
  · have hlt : k < s.length := by omega
    refine rg ?_
    refine GL.cons (Step.indexS tb k rfl (Op1.of rfl (by first | exact fun _ => rfl | exact fun h => h | exact fun h => bL h | exact fun h => bL (bL h) | exact fun h => bL (bL (bL h)))) (Op1.of rfl (by first | exact fun _ => rfl | exact fun h => h | exact fun h => bL h | exact fun h => bL (bL h) | exact fun h => bL (bL (bL h)))) rfl (fun _ => ⟨by omega, by omega⟩) rfl ?_)
    refine rg ?_
    refine G.sub (e' := [(15, none, .bool (lett (s.getD k 0))), (6, none, U (s.getD k 0)), (5, none, .int .i64 k), (0, none, S s), (1, none, .bool b), (8, none, .int .i64 s.length), (9, none, .int .i64 k)]) (by repeat (first | exact Sub.nil _ | refine Sub.cons rfl ?_)) ?_
    have next : namedC b k (s.getD k 0) = true → ∃ x', namedTo b s x' ∧ x' = k + 1 := fun h => ⟨k + 1, namedTo_succ hto h, rfl⟩
    first | refine G.condD rfl (fun hc => ?_) (fun hc => ?_) | refine G.condN rfl (fun hc => ?_) (fun hc => ?_) | refine G.cond rfl (fun hc => ?_) (fun hc => ?_)
    · refine rg ?_
      refine GL.cons (Step.arith rfl (Op1.of rfl (by first | exact fun _ => rfl | exact fun h => h | exact fun h => bL h | exact fun h => bL (bL h) | exact fun h => bL (bL (bL h)))) (Op1.of rfl (by first | exact fun _ => rfl | exact fun h => h | exact fun h => bL h | exact fun h => bL (bL h) | exact fun h => bL (bL (bL h)))) (wrap_i64 (by omega) (by omega)) rfl ?_)
      refine rg ?_
      refine G.lp (k + 1) (by repeat (first | exact Sub.nil _ | refine Sub.cons rfl ?_)) ⟨rfl, by omega, namedTo_succ hto (by simp only [namedC, hc]; simp)⟩ (by omega)
    · refine rg ?_
      first | refine G.condD rfl (fun hc => ?_) (fun hc => ?_) | refine G.condN rfl (fun hc => ?_) (fun hc => ?_) | refine G.cond rfl (fun hc => ?_) (fun hc => ?_)
      · refine rg ?_
        refine GL.cons (Step.arith rfl (Op1.of rfl (by first | exact fun _ => rfl | exact fun h => h | exact fun h => bL h | exact fun h => bL (bL h) | exact fun h => bL (bL (bL h)))) (Op1.of rfl (by first | exact fun _ => rfl | exact fun h => h | exact fun h => bL h | exact fun h => bL (bL h) | exact fun h => bL (bL (bL h)))) (wrap_i64 (by omega) (by omega)) rfl ?_)
        refine rg ?_
        refine G.lp (k + 1) (by repeat (first | exact Sub.nil _ | refine Sub.cons rfl ?_)) ⟨rfl, by omega, namedTo_succ hto (by simp only [namedC, hc]; simp)⟩ (by omega)
      · refine rg ?_
        have hc2 := hc
        first | refine G.condD rfl (fun hc => ?_) (fun hc => ?_) | refine G.condN rfl (fun hc => ?_) (fun hc => ?_) | refine G.cond rfl (fun hc => ?_) (fun hc => ?_)
        · refine rg ?_
          refine GL.cons (Step.arith rfl (Op1.of rfl (by first | exact fun _ => rfl | exact fun h => h | exact fun h => bL h | exact fun h => bL (bL h) | exact fun h => bL (bL (bL h)))) (Op1.of rfl (by first | exact fun _ => rfl | exact fun h => h | exact fun h => bL h | exact fun h => bL (bL h) | exact fun h => bL (bL (bL h)))) (wrap_i64 (by omega) (by omega)) rfl ?_)
          refine rg ?_
          refine G.lp (k + 1) (by repeat (first | exact Sub.nil _ | refine Sub.cons rfl ?_)) ⟨rfl, by omega, namedTo_succ hto (by simp only [namedC, digitC, hc]; simp)⟩ (by omega)
        · refine rg ?_
          refine G.ret1 rfl rfl rfl rfl ?_
          refine ⟨?_, rfl⟩
          rw [namedB_no hlt (by simp only [namedC, digitC, *]; rfl)]
  · refine rg ?_
    refine G.ret1 rfl rfl rfl rfl ?_
    obtain rfl : k = s.length := by omega
    exact ⟨by rw [namedB_end hto], rfl⟩

theorem rightName_ok (s : List UInt8) (w : World) (hs : s.length ≤ 9223372036854775807) :
    Ret Tryz.prog 144 ⟨[S s]⟩ w fun v w' => v = .bool (namedB false s) ∧ Ext w w' := by
  refine ret_of_G Tryz.func144 rfl Tryz.ntmps144 rfl ?_
  simp only [argEnv]
  refine rg ?_
  refine GL.cons (Step.callF rfl rfl rfl c95 rfl (named_ok s false w hs) ?_)
  rintro _ _ ⟨rfl, rfl⟩
  refine rg ?_
  refine G.ret1 rfl rfl rfl rfl ?_
  exact ⟨rfl, Ext.refl _⟩
theorem rightMetric_ok (s : List UInt8) (w : World) (hs : s.length ≤ 9223372036854775807) :
    Ret Tryz.prog 61 ⟨[S s]⟩ w fun v w' => v = .bool (namedB true s) ∧ Ext w w' := by
  refine ret_of_G Tryz.func61 rfl Tryz.ntmps61 rfl ?_
  simp only [argEnv]
  refine rg ?_
  refine GL.cons (Step.callF rfl rfl rfl c95 rfl (named_ok s true w hs) ?_)
  rintro _ _ ⟨rfl, rfl⟩
  refine rg ?_
  refine G.ret1 rfl rfl rfl rfl ?_
  exact ⟨rfl, Ext.refl _⟩
end Go.Proofs.YtcngoccnfmhhnaaGreatDoor.Lab
end
section
open Go Go.Vg Go.RowKit Go.Proofs Go.Proofs.YtcngoccnfmhhnaaGreatDoor
namespace Go.Proofs.YtcngoccnfmhhnaaGreatDoor.Lab

abbrev Lab := List UInt8 × List UInt8
def labC (x : Lab) : List Value := [S x.1, S x.2]
abbrev Labs (w : World) (v : Value) (ls : List Lab) : Prop := Sli w v 2 (ls.map labC)
theorem Labs.get {ls : List Lab} {k : Nat} (h : k < ls.length) : (ls.map labC)[k]? = some (labC ls[k]) := by simp [h]
theorem Labs.bound {w : World} {v : Value} {ls : List Lab} (h : Labs w v ls) : ls.length ≤ 9223372036854775807 := by have := Sli.bound h; simpa using this

def hasL (ls : List Lab) (name : List UInt8) : Bool := ls.any fun x => decide (x.1 = name)
end Go.Proofs.YtcngoccnfmhhnaaGreatDoor.Lab
end
section
open Go Go.Vg Go.RowKit Go.Proofs Go.Proofs.YtcngoccnfmhhnaaGreatDoor
namespace Go.Proofs.YtcngoccnfmhhnaaGreatDoor.Lab

def labAt (ls : List Lab) (k : Nat) : Lab := ls.getD k ([], [])
theorem Labs.getD {ls : List Lab} {k : Nat} (h : k < ls.length) : (ls.map labC)[k]? = some (labC (labAt ls k)) := by simp [labAt, h, List.getD]
def putL (ls : List Lab) (x : Lab) : List Lab := ls.takeWhile (fun y => Op.bytesLess y.1 x.1) ++ x :: ls.dropWhile (fun y => Op.bytesLess y.1 x.1)

theorem lab1 (ls : List Lab) : ∀ y ∈ ls.map labC, ∀ c ∈ y, c.oneCell' = true := by
  intro y hy c hc
  obtain ⟨x, _, rfl⟩ := List.mem_map.1 hy
  simp only [labC, List.mem_cons, List.not_mem_nil, or_false] at hc
  rcases hc with rfl | rfl <;> rfl
theorem labLen (ls : List Lab) : ∀ x ∈ ls.map labC, x.length = 2 := by
  intro y hy
  obtain ⟨x, _, rfl⟩ := List.mem_map.1 hy
  rfl
theorem Labs.sub {w : World} {v : Value} {ls : List Lab} (hs : Labs w v ls) {l h : Nat} (hl : l ≤ h) (hh : h ≤ ls.length) : Labs w (subS v 2 l h) ((ls.drop l).take (h - l)) := by
  have := Sli.sub hs hl (by simpa using hh)
  unfold Labs
  rw [List.map_take, List.map_drop]; exact this

end Go.Proofs.YtcngoccnfmhhnaaGreatDoor.Lab
end
section
open Go Go.Vg Go.RowKit Go.Proofs Go.Proofs.YtcngoccnfmhhnaaGreatDoor
namespace Go.Proofs.YtcngoccnfmhhnaaGreatDoor.Lab

theorem u8n_le (s : List UInt8) (i n : Nat) (c l : Int) (hi : i ≤ s.length) : i + u8n s i n c l ≤ s.length := by
  unfold u8n
  by_cases h : s.length < i + n
  · rw [if_pos h]; exact hi
  · rw [if_neg h]
    split
    · exact hi
    · split
      · exact hi
      · omega
theorem u8len_le (s : List UInt8) (i : Nat) (hi : i ≤ s.length) : i + u8len s i ≤ s.length := by
  unfold u8len
  split
  · exact hi
  · exact u8n_le _ _ _ _ _ hi
def validGo (s : List UInt8) : Nat → Nat → Bool
  | 0, _ => true
  | m + 1, i => if s.length ≤ i then true else if u8len s i = 0 then false else validGo s m (i + u8len s i)
def validU (s : List UInt8) : Bool := validGo s s.length 0
theorem validGo_end (s : List UInt8) : ∀ (m i : Nat), s.length ≤ i → validGo s m i = true
  | 0, _, _ => rfl
  | m + 1, i, h => by rw [validGo, if_pos h]
theorem validGo_fuel (s : List UInt8) : ∀ (m k i : Nat), s.length - i ≤ m → s.length - i ≤ k → validGo s m i = validGo s k i := by
  intro m
  induction m with
  | zero => intro k i h _; rw [validGo_end s 0 i (by omega), validGo_end s k i (by omega)]
  | succ m ih =>
    intro k i h h2
    cases k with
    | zero => rw [validGo_end s 0 i (by omega), validGo_end s (m + 1) i (by omega)]
    | succ k =>
      simp only [validGo]
      by_cases he : s.length ≤ i
      · rw [if_pos he, if_pos he]
      · rw [if_neg he, if_neg he]
        by_cases hz : u8len s i = 0
        · rw [if_pos hz, if_pos hz]
        · rw [if_neg hz, if_neg hz]
          exact ih _ _ (by omega) (by omega)
theorem validGo_step {s : List UInt8} {i : Nat} (hi : i < s.length) (hz : u8len s i ≠ 0) : validGo s (s.length - i) i = validGo s (s.length - (i + u8len s i)) (i + u8len s i) := by
  rw [validGo_fuel s (s.length - i) ((s.length - i - 1) + 1) i (by omega) (by omega), validGo, if_neg (by omega), if_neg hz]
  exact validGo_fuel _ _ _ _ (by omega) (by omega)
theorem validGo_no {s : List UInt8} {i : Nat} (hi : i < s.length) (hz : u8len s i = 0) : validGo s (s.length - i) i = false := by
  rw [validGo_fuel s (s.length - i) ((s.length - i - 1) + 1) i (by omega) (by omega), validGo, if_neg (by omega), if_pos hz]

def rightV (s : List UInt8) : Bool := decide ((s.length : Int) ≤ 1024) && validU s
def Sz (s : List UInt8) : Prop := s.length ≤ 9223372036854775807
def LabSz (x : Lab) : Prop := Sz x.1 ∧ Sz x.2
def nameS : List UInt8 := [95, 95, 110, 97, 109, 101, 95, 95]
/-- may a label be in a set, but for an empty value? -/
def fairB (x : Lab) : Bool := (namedB false x.1 && rightV x.2) && (!decide (x.1 = nameS) || decide (x.2 = []) || namedB true x.2)
end Go.Proofs.YtcngoccnfmhhnaaGreatDoor.Lab
end
section
open Go Go.Vg Go.RowKit Go.Proofs Go.Proofs.YtcngoccnfmhhnaaGreatDoor
namespace Go.Proofs.YtcngoccnfmhhnaaGreatDoor.Lab

abbrev LO (w : World) (B : Nat) (v : Value) (ls : List Lab) : Prop := Owns w B v 76 2 (ls.map labC)
def stepN (s : List Lab × Bool) (x : Lab) : List Lab × Bool := if x.2 = [] then s else (putL s.1 x, s.2 || hasL s.1 x.1)
def foldN (ls : List Lab) : List Lab × Bool := ls.foldl stepN ([], false)
def newR (ls : List Lab) : Int × List Lab :=
  if ls.all fairB = true then (if (foldN ls).2 = true then (13, []) else if 64 < (foldN ls).1.length then (15, []) else (0, (foldN ls).1)) else (2, [])
theorem foldN_snoc (ls : List Lab) (x : Lab) : foldN (ls ++ [x]) = stepN (foldN ls) x := by simp [foldN]
theorem Labs.at {ls : List Lab} {k : Nat} (h : k < ls.length) : ∃ x, x ∈ ls ∧ (ls.map labC)[k]? = some (labC x) ∧ ls.take (k + 1) = ls.take k ++ [x] ∧ ls.drop k = x :: ls.drop (k + 1) ∧ ls[k]? = some x :=
  ⟨ls[k], List.getElem_mem h, by simp [h], by rw [List.take_succ_eq_append_getElem h], List.drop_eq_getElem_cons h, by simp [h]⟩
theorem take_snoc {α : Type} {l : List α} {k : Nat} (h : k < l.length) : l.take (k + 1) = l.take k ++ [l[k]] := by rw [List.take_succ_eq_append_getElem h]

end Go.Proofs.YtcngoccnfmhhnaaGreatDoor.Lab
end
section
open Go Go.Vg Go.RowKit Go.Proofs Go.Proofs.YtcngoccnfmhhnaaGreatDoor
namespace Go.Proofs.YtcngoccnfmhhnaaGreatDoor
open Go.Ex

theorem head_lt {s : List UInt8} {k : Nat} {b : UInt8} (h : (s.drop k).head? = some b) : k < s.length := by
  by_cases hlt : k < s.length
  · exact hlt
  · rw [drop_no hlt] at h; cases h
theorem labels_ok (w : World) (rb : Nat) (s : List UInt8) (i : Nat) (h : Rd w rb s i) :
    RetP Tryz.prog 141 ⟨[ptr rb]⟩ w (fun r w' => ∃ ls i', labsP (s.drop i) = some (ls, s.drop i') ∧ Lab.LO w' w.heap.size r ls ∧ Rd w' rb s i' ∧ Kp rb w w') (fun ch w' => labsP (s.drop i) = none ∧ Bad ch ∧ Kp rb w w') := by
  have hs := h.hs
  have hi := h.hi
  have hrb := h.bx.lt
  refine ret_of_GP Tryz.func141 rfl Tryz.ntmps141 rfl ?_
  simp only [argEnv]
  refine rn ?_
  refine G.scopeP rfl rfl ?_
  refine rn ?_
  refine sMkV (fun W1 hm1 hs1 hx1 => ?_)
  obtain ⟨mb, hmb⟩ : ∃ mb, mb = w.heap.size := ⟨_, rfl⟩
  rw [← hmb] at hm1 hs1 hrb ⊢
  have hr1 := h.to hx1
  refine rn ?_
  refine sCallP c159 (must_ok 123 W1 rb s i hr1) (fun ch w' hz => px_P rfl rfl ?_) ?_
  · refine ⟨?_, hz.2.1, hx1.kp.trans hz.2.2⟩
    unfold labsP; rw [hz.1]
  rintro _ W2 ⟨hmu, hr2, hk2⟩
  have hm2 := hm1.kp hk2 (by omega)
  have hB2 : mb + 1 ≤ W2.heap.size := by have := hk2.size; omega
  refine rn ?_
  refine sCall c58 (blanks_ok W2 rb s (i + 1) hr2) ?_
  rintro _ W3 ⟨rfl, hr3, hk3⟩
  have hm3 := hm2.kp hk3 (by omega)
  have hB3 : mb + 1 ≤ W3.heap.size := by have := hk3.size; omega
  have hk03 := (hx1.kp.trans hk2).trans hk3
  have hlabs : labsP (s.drop i) = match labGo ((s.drop (i + 1 + bls (s.drop (i + 1)))).length + 1) [] (s.drop (i + 1 + bls (s.drop (i + 1)))) with
      | none => none
      | some (ls, l2) => match mustP 125 l2 with
        | none => none
        | some l3 => some (ls, l3) := by
    unfold labsP
    rw [hmu]
    simp only
    rw [skipB_drop]
    have hle : (s.drop (i + 1 + bls (s.drop (i + 1)))).length ≤ (s.drop (i + 1)).length := by simp only [List.length_drop]; omega
    rw [labGo_fuel _ _ [] ((s.drop (i + 1)).length + 1) ((s.drop (i + 1 + bls (s.drop (i + 1)))).length + 1) (Nat.le_refl _) (by omega) (by omega)]
    try (generalize labGo _ _ _ = q; rcases q with _ | ⟨ls, l2⟩ <;> (try rfl) <;> (simp only; generalize mustP _ _ = q; rcases q with _ | l3 <;> rfl))
  generalize hk0 : i + 1 + bls (s.drop (i + 1)) = k0 at hr3 hlabs
  clear hm1 hm2 hr1 hr2 hk2 hk3 hmu
  refine lgN tb 4 ?_
  refine G.label ?_
  refine G.seq ?_
  generalize hF0 : labGo ((s.drop k0).length + 1) [] (s.drop k0) = F0 at hlabs
  have hF0' := hF0
  refine G.join (fun x : Nat × Value => [(0, none, ptr rb), (2, none, x.2), (3, none, .map (some mb))]) (fun x W => Rd W rb s x.1 ∧ Kp rb w W ∧ ∃ acc, Lab.LO W (mb + 1) x.2 acc ∧ F0 = some (acc, s.drop x.1)) ?_ ?_
  · rintro ⟨k, v⟩ W ⟨hr, hk, acc, ho, he⟩
    simp only at hr ho he ⊢
    rw [he] at hlabs
    simp only at hlabs
    refine rn ?_
    refine sCallP c159 (must_ok 125 W rb s k hr) (fun ch w' hz => px_P rfl rfl ?_) ?_
    · refine ⟨?_, hz.2.1, hk.trans hz.2.2⟩
      rw [hlabs, hz.1]
    rintro _ W4 ⟨hmu, hr4, hk4⟩
    rw [hmu] at hlabs
    simp only at hlabs
    have ho4 := ho.kp hk4 (by omega)
    refine rn ?_
    refine G.retP1 rfl rfl rfl rfl ?_
    exact ⟨acc, k + 1, hlabs, ho4.mono (by omega), hr4, hk.trans hk4⟩
  · refine rn ?_
    refine (G.loop (fun x : Nat × Value => [(0, none, ptr rb), (2, none, x.2), (3, none, .map (some mb))]) (fun x W => Rd W rb s x.1 ∧ Kp rb w W ∧ mb + 1 ≤ W.heap.size ∧ ∃ acc seen, Lab.LO W (mb + 1) x.2 acc ∧ Mv W mb seen ∧ (∀ n, vget seen n = if n ∈ acc.map (·.1) then some (.int .i64 1) else none) ∧ acc.length ≤ x.1 ∧ F0 = labGo ((s.drop x.1).length + 1) acc (s.drop x.1)) (fun x => s.length - x.1) (k0, .slice none 0 0) (by repeat (first | exact Sub.nil _ | refine Sub.cons rfl ?_)) ⟨hr3, hk03, hB3, [], [], Owns.nil _ _ _ _, hm3, by simp [vget], by simp, hF0.symm⟩ ?_)
    clear hm3 hr3 hk03 hB3 hx1 hs1
    rintro ⟨k, v⟩ W ⟨hr, hk, hB, acc, seen, ho, hm, hseen, hal, he⟩
    simp only at hr ho hal he ⊢
    have hkl := hr.hi
    refine rn ?_
    refine sCall c140 (is_ok 125 W rb s k hr) ?_
    rintro _ W3 ⟨rfl, hx3⟩
    have hr3 := hr.to hx3
    have hk3 := hk.trans hx3.kp
    have ho3 := ho.to hx3
    have hm3 := hm.to hx3
    have hB3 := Nat.le_trans hB hx3.size
    refine rn ?_
    first | refine G.condD rfl (fun hc => ?_) (fun hc => ?_) | refine G.condN rfl (fun hc => ?_) (fun hc => ?_) | refine G.cond rfl (fun hc => ?_) (fun hc => ?_)
    · have hne := hc
      have hbx := hr3.bx
      have hgo : labGo ((s.drop k).length + 1) acc (s.drop k) = match labP (s.drop k) with
          | none => none
          | some (x, r) => if x.1 ∈ acc.map (·.1) then none
            else if (skipB r).head? = some 44 then labGo (s.drop k).length (acc ++ [x]) (skipB ((skipB r).drop 1))
            else some (acc ++ [x], skipB r) := by
        simp only [labGo]
        rw [if_neg hne]
        try (generalize labP _ = q; rcases q with _ | ⟨x, r⟩ <;> rfl)
      rw [hgo] at he
      refine rn ?_
      refine sCallP c60 (name_ok false W3 rb s k hr3) (fun ch w' hz => px_P rfl rfl ?_) ?_
      · refine ⟨?_, hz.2.1, hk3.trans hz.2.2⟩
        have hl : labP (s.drop k) = none := by unfold labP; rw [hz.1]
        rw [hl] at he
        rw [hlabs, he]
      rintro _ W4 ⟨n, hn, rfl, hr4, hk4⟩
      have hnl := nameP_len hn
      have ho4 := ho3.kp hk4 (by omega)
      have hm4 := hm3.kp hk4 (by omega)
      have hB4 := Nat.le_trans hB3 hk4.size
      have hk04 := hk3.trans hk4
      refine rn ?_
      refine sAl tb ?_
      intro W5 hb5 hs5 hx5
      obtain ⟨xb, hxb⟩ : ∃ xb, xb = W4.heap.size := ⟨_, rfl⟩
      rw [← hxb] at hb5 hs5 ⊢
      have hov : some xb ≠ v.ownBlock := fun e => by have := (ho4.lt xb e.symm).2; omega
      refine sSt tb ?_ (vs := [S n, S []]) (hv := rfl) (h1 := by intro x hx; simp only [List.mem_cons, List.not_mem_nil, or_false] at hx; rcases hx with rfl | rfl <;> rfl)
      intro W6 hb6 hw6
      have hx46 : Ext W4 W6 := Below.wr hx5 hw6 (by omega)
      have hr6 := hr4.to hx46
      have ho6 := ho4.to hx46
      have hm6 := hm4.to hx46
      have hB6 := Nat.le_trans hB4 hx46.size
      have hk6 := hk04.trans hx46.kp
      clear hb5 hs5 hx5 hw6 hx46 hr4 ho4 hm4 hk04 hr3 ho3 hm3 hk3 hbx
      refine rn ?_
      refine sCall c58 (blanks_ok W6 rb s (k + n.length) hr6) ?_
      rintro _ W7 ⟨rfl, hr7, hk7⟩
      have hsk1 := skipB_drop s (k + n.length)
      generalize k + n.length + bls (s.drop (k + n.length)) = k1 at hr7 hsk1
      refine rn ?_
      refine sCallP c159 (must_ok 61 W7 rb s k1 hr7) (fun ch w' hz => px_P rfl rfl ?_) ?_
      · refine ⟨?_, hz.2.1, hk6.trans (hk7.trans hz.2.2)⟩
        have hl : labP (s.drop k) = none := by
          unfold labP; rw [hn]; simp only; rw [hsk1, hz.1]
        rw [hl] at he
        rw [hlabs, he]
      rintro _ W8 ⟨hmu, hr8, hk8⟩
      refine rn ?_
      refine sCall c58 (blanks_ok W8 rb s (k1 + 1) hr8) ?_
      rintro _ W9 ⟨rfl, hr9, hk9⟩
      have hsk2 := skipB_drop s (k1 + 1)
      generalize k1 + 1 + bls (s.drop (k1 + 1)) = k2 at hr9 hsk2
      refine rn ?_
      refine sCallP c160 (quoted_ok W9 rb s k2 hr9) (fun ch w' hz => px_P rfl rfl ?_) ?_
      · refine ⟨?_, hz.2.1, hk6.trans (hk7.trans (hk8.trans (hk9.trans hz.2.2)))⟩
        have hl : labP (s.drop k) = none := by
          unfold labP; rw [hn]; simp only; rw [hsk1, hmu]; simp only; rw [hsk2, hz.1]
        rw [hl] at he
        rw [hlabs, he]
      rintro _ W10 ⟨u, k3, hq, rfl, hr10, hk10⟩
      have hlab : labP (s.drop k) = some ((n, u), s.drop k3) := by
        unfold labP; rw [hn]; simp only; rw [hsk1, hmu]; simp only; rw [hsk2, hq]
      have hk610 := hk7.trans (hk8.trans (hk9.trans hk10))
      have hxbr : xb ≠ rb := by have := hB4; omega
      have hb10 := hb6.kp hk610 hxbr
      have ho10 := ho6.kp hk610 (by omega)
      have hm10 := hm6.kp hk610 (by omega)
      have hB10 := Nat.le_trans hB6 hk610.size
      have hk10' := hk6.trans hk610
      clear hb6 hr6 ho6 hm6 hk6 hr7 hr8 hr9 hk7 hk8 hk9 hk10 hk610
      rw [hlab] at he
      simp only at he
      refine rn ?_
      refine sSf tb (fun W11 hb11 hw11 => ?_)
      have hr11 := hr10.kp hw11.kp (by omega)
      have ho11 : Lab.LO W11 (mb + 1) v acc := ho10.wr2 hw11 hov
      have hm11 := hm10.kp hw11.kp (by omega)
      have hB11 : mb + 1 ≤ W11.heap.size := by rw [hw11.size]; exact hB10
      have hxw : w.heap.size ≤ xb := by omega
      have hk11 : Kp rb w W11 := hk10'.new hw11.kp hxw
      have hb11 : Bx W11 xb [S n, S u] := hb11
      clear hb10 hr10 ho10 hm10 hB10 hk10' hw11
      refine rn ?_
      refine sBs' tb [Lab.labC (n, u)] (fun us W12 ho12 hs12 hx12 => ?_) (hkl := by simp [Lab.labC])
      have hr12 := hr11.to hx12
      have hb12 := hb11.to hx12
      have ho12' := ho11.to hx12
      have hm12 := hm11.to hx12
      have hB12 := Nat.le_trans hB11 hx12.size
      have hk12 := hk11.trans hx12.kp
      have hkl12 := hr12.hi
      refine sApp2 tb ho12' ho12.sli (fun v' W13 hv13 hg13 ho13 => ?_) (h1 := by intro y hy c hc; simp only [List.mem_cons, List.not_mem_nil, or_false] at hy; subst hy; simp only [Lab.labC, List.mem_cons, List.not_mem_nil, or_false] at hc; rcases hc with rfl | rfl <;> rfl)
      have hbl13 := hg13.bl
      have hr13 := hr12.below hbl13 (by omega)
      have hm13 := hm12.below hbl13 (by omega)
      have hb13 := hb12.grew hg13 hov
      have hk13 : Kp rb w W13 := kp_below hk12 (hbl13.mono (by omega))
      have hB13 := Nat.le_trans hB12 hbl13.size
      have hv13 : Lab.LO W13 (mb + 1) v' (acc ++ [(n, u)]) := by unfold Lab.LO; rw [List.map_append]; exact hv13
      obtain ⟨c, hcs, hc1, hc0⟩ : ∃ c : Nat, (vget seen n).getD (.int .i64 0) = .int .i64 c ∧ (n ∈ acc.map (·.1) → c = 1) ∧ (n ∉ acc.map (·.1) → c = 0) := by
        rw [hseen n]
        by_cases hmem : n ∈ acc.map (·.1)
        · exact ⟨1, by rw [if_pos hmem]; rfl, fun _ => rfl, fun h => absurd hmem h⟩
        · exact ⟨0, by rw [if_neg hmem]; rfl, fun h => absurd h hmem, fun _ => rfl⟩
      have hcle : c ≤ 1 := by
        by_cases hmem : n ∈ acc.map (·.1)
        · have := hc1 hmem; omega
        · have := hc0 hmem; omega
      clear hb12 hr12 hm12 hk12 hB12 ho12 ho12' hr11 hm11 hk11 hB11 hb11 ho11
      refine rn ?_
      refine sLkV tb ?_
      rw [hcs]
      refine sAd tb ?_
      refine sMuV tb (fun W14 hm14 hw14 => ?_) hm13
      have hr14 := hr13.kp hw14.kp (by omega)
      have hmx : xb ≠ mb := by omega
      have hb14 := hb13.kp hw14.kp hmx
      have hv14 : Lab.LO W14 (mb + 1) v' (acc ++ [(n, u)]) := hv13.kp hw14.kp (by omega)
      have hk14 := hk13.new hw14.kp (show w.heap.size ≤ mb by omega)
      have hB14 : mb + 1 ≤ W14.heap.size := by rw [hw14.size]; exact hB13
      have hkl14 := hr14.hi
      clear hb13 hr13 hm13 hv13 hk13 hB13
      refine rn ?_
      refine sLkV tb ?_
      rw [vget_same]
      simp only [Option.getD_some]
      refine rn ?_
      first | refine G.condD rfl (fun hc => ?_) (fun hc => ?_) | refine G.condN rfl (fun hc => ?_) (fun hc => ?_) | refine G.cond rfl (fun hc => ?_) (fun hc => ?_)
      · have hmem : n ∈ acc.map (·.1) := Decidable.byContradiction fun hmem => by have := hc0 hmem; omega
        rw [if_pos hmem] at he
        refine rn ?_
        refine sCallP c94 (fail_ok rb k 13 W14 (by decide)) (fun ch w' hz => px_P rfl rfl ?_) ?_
        · refine ⟨?_, hz.1, by rw [hz.2]; exact hk14⟩
          rw [hlabs, he]
        · rintro _ _ ⟨⟩
      · have hmem : n ∉ acc.map (·.1) := fun hmem => by have := hc1 hmem; omega
        rw [if_neg hmem] at he
        have hseen' : ∀ m, vget (vput seen n (.int .i64 ((c : Int) + 1))) m = if m ∈ (acc ++ [(n, u)]).map (·.1) then some (.int .i64 1) else none := by
          intro m
          have hcz := hc0 hmem
          subst hcz
          by_cases hmn : m = n
          · subst hmn
            rw [vget_same, if_pos (by simp)]; rfl
          · rw [vget_other _ _ _ _ hmn, hseen m]
            have hmm : (m ∈ (acc ++ [(n, u)]).map (·.1)) ↔ m ∈ acc.map (·.1) := by
              rw [List.map_append, List.mem_append]
              constructor
              · rintro (h | h)
                · exact h
                · exact absurd (List.mem_singleton.1 h) hmn
              · exact .inl
            by_cases hma : m ∈ acc.map (·.1)
            · rw [if_pos hma, if_pos (hmm.2 hma)]
            · rw [if_neg hma, if_neg fun x => hma (hmm.1 x)]
        refine rn ?_
        refine sCall c58 (blanks_ok W14 rb s k3 hr14) ?_
        rintro _ W15 ⟨rfl, hr15, hk15⟩
        have hsk3 := skipB_drop s k3
        have hk3l := labP_len hlab
        simp only [List.length_drop] at hk3l
        have hk34 : k3 ≤ k3 + bls (s.drop k3) := by omega
        generalize k3 + bls (s.drop k3) = k4 at hr15 hsk3 hk34
        have hv15 := hv14.kp hk15 (by omega)
        have hm15 := hm14.kp hk15 (by omega)
        have hk15' := hk14.trans hk15
        have hB15 := Nat.le_trans hB14 hk15.size
        rw [hsk3] at he
        refine rn ?_
        refine sCall c140 (is_ok 44 W15 rb s k4 hr15) ?_
        rintro _ W16 ⟨rfl, hx16⟩
        have hr16 := hr15.to hx16
        have hv16 := hv15.to hx16
        have hm16 := hm15.to hx16
        have hk16 := hk15'.trans hx16.kp
        have hB16 := Nat.le_trans hB15 hx16.size
        have hbx := hr16.bx
        clear hr14 hv14 hm14 hk14 hB14 hr15 hv15 hm15 hk15 hk15' hB15 hx16
        refine rn ?_
        first | refine G.condD rfl (fun hc => ?_) (fun hc => ?_) | refine G.condN rfl (fun hc => ?_) (fun hc => ?_) | refine G.cond rfl (fun hc => ?_) (fun hc => ?_)
        · rw [if_pos hc, List.drop_drop] at he
          have hlt4 := head_lt hc
          refine rn ?_
          refine sAd tb ?_
          refine rn ?_
          refine sSf tb (fun W17 hb17 hw17 => ?_)
          have hr17 := hr16.at_ hb17 hw17 hlt4
          have hv17 := hv16.kp hw17.kp (by omega)
          have hm17 := hm16.kp hw17.kp (by omega)
          have hk17 := hk16.trans hw17.kp
          have hB17 : mb + 1 ≤ W17.heap.size := by rw [hw17.size]; exact hB16
          refine rn ?_
          refine sCall c58 (blanks_ok W17 rb s (k4 + 1) hr17) ?_
          rintro _ W18 ⟨rfl, hr18, hk18⟩
          have hsk5 := skipB_drop s (k4 + 1)
          rw [hsk5] at he
          have hk45 : k4 + 1 ≤ k4 + 1 + bls (s.drop (k4 + 1)) := by omega
          generalize k4 + 1 + bls (s.drop (k4 + 1)) = k5 at hr18 hsk5 hk45 he
          refine rn ?_
          refine G.lp (x := (k, v)) (k5, v') (by repeat (first | exact Sub.nil _ | refine Sub.cons rfl ?_)) ⟨hr18, hk17.trans hk18, Nat.le_trans hB17 hk18.size, _, _, hv17.kp hk18 (by omega), hm17.kp hk18 (by omega), hseen', ?_, ?_⟩ ?_
          · simp only [List.length_append, List.length_cons, List.length_nil]; omega
          · rw [he]
            exact labGo_fuel _ _ _ _ _ (Nat.le_refl _) (by simp only [List.length_drop]; omega) (Nat.lt_succ_self _)
          · have := hr18.hi
            show s.length - k5 < s.length - k
            omega
        · rw [if_neg hc] at he
          refine rn ?_
          exact G.met (k4, v') (by repeat (first | exact Sub.nil _ | refine Sub.cons rfl ?_)) ⟨hr16, hk16, _, hv16, he⟩
    · have hq : (s.drop k).head? = some 125 := by simpa using hc
      have hgo : labGo ((s.drop k).length + 1) acc (s.drop k) = some (acc, s.drop k) := by
        simp only [labGo]
        rw [if_pos hq]
      refine rn ?_
      exact G.met (k, v) (by repeat (first | exact Sub.nil _ | refine Sub.cons rfl ?_)) ⟨hr3, hk3, _, ho3, by rw [he, hgo]⟩
end Go.Proofs.YtcngoccnfmhhnaaGreatDoor
end
section
namespace Go.Vg
open Go.RowKit
/-- what a box that holds a result gives -/
def RV (P : Program) (w : World) (ty : TypeId) (p v : Value) : Prop := ∃ a, p = .pointer (some a) ∧ (loadVar ty a).run P w = .ok v w
theorem RV.agg {P : Program} (T : Tb P) {w : World} {ty sz b : Nat} {td : TypeDesc} {z p : Value} {us : List Value} (hc : CellsAt w p us) (ht : T.ty ty = some td := by exact rfl) (ha : aggT td = true := by exact rfl) (hi : T.inf ty = some (z, sz, b) := by exact rfl) (hl : us.length = sz := by exact rfl) : RV P w ty p (.agg ⟨us⟩) := by
  obtain ⟨a, rfl, _, hc⟩ := hc
  subst hl
  have h0 := run_loadCells_list (P := P) w a us hc
  exact ⟨a, rfl, by simp only [loadVar, Sem.run_bind, Sem.run_pure, Result.andThen_ok, run_isAgg (T.ok _ _ ht), ha, if_true, run_sizeOf hi, h0]⟩
theorem RV.one {P : Program} (T : Tb P) {w : World} {ty : Nat} {td : TypeDesc} {p u : Value} (hc : CellAt w p u) (ht : T.ty ty = some td := by exact rfl) (ha : aggT td = false := by exact rfl) : RV P w ty p u := by
  obtain ⟨a, rfl, hc⟩ := hc
  exact ⟨a, rfl, by simp [loadVar, Sem.run_bind, run_isAgg (T.ok _ _ ht), ha, hc]⟩
variable {P : Program} {fn : Func} {n : Nat} {e : Env} {t : Array Value} {w : World}
theorem resCCC (hf : Fits n e t) {s1 t1 s2 t2 s3 t3 : Nat} {p1 u1 p2 u2 p3 u3 : Value} (hr : fn.results = #[.cell s1 t1, .cell s2 t2, .cell s3 t3])
    (hv1 : look e s1 = some (none, p1)) (hv2 : look e s2 = some (none, p2)) (hv3 : look e s3 = some (none, p3)) (h1 : RV P w t1 p1 u1) (h2 : RV P w t2 p2 u2) (h3 : RV P w t3 p3 u3) : (results fn t).run P w = .ok (.tuple ⟨[u1, u2, u3]⟩) w := by
  obtain ⟨a1, rfl, e1⟩ := h1
  obtain ⟨a2, rfl, e2⟩ := h2
  obtain ⟨a3, rfl, e3⟩ := h3
  have h1 : t.getD s1 undef = .pointer (some a1) := (hf.get _ _ _ hv1).2
  have h2 : t.getD s2 undef = .pointer (some a2) := (hf.get _ _ _ hv2).2
  have h3 : t.getD s3 undef = .pointer (some a3) := (hf.get _ _ _ hv3).2
  simp only [results, hr, List.mapM_toArray, List.mapM_cons, List.mapM_nil, h1, h2, h3, asAddr, Sem.run_bind, Sem.run_map, Sem.run_pure, Result.andThen_ok, e1, e2, e3]
  rfl
theorem resCC (hf : Fits n e t) {s1 t1 s2 t2 : Nat} {p1 u1 p2 u2 : Value} (hr : fn.results = #[.cell s1 t1, .cell s2 t2])
    (hv1 : look e s1 = some (none, p1)) (hv2 : look e s2 = some (none, p2)) (h1 : RV P w t1 p1 u1) (h2 : RV P w t2 p2 u2) : (results fn t).run P w = .ok (.tuple ⟨[u1, u2]⟩) w := by
  obtain ⟨a1, rfl, e1⟩ := h1
  obtain ⟨a2, rfl, e2⟩ := h2
  have h1 : t.getD s1 undef = .pointer (some a1) := (hf.get _ _ _ hv1).2
  have h2 : t.getD s2 undef = .pointer (some a2) := (hf.get _ _ _ hv2).2
  simp only [results, hr, List.mapM_toArray, List.mapM_cons, List.mapM_nil, h1, h2, asAddr, Sem.run_bind, Sem.run_map, Sem.run_pure, Result.andThen_ok, e1, e2]
  rfl
theorem resCT (hf : Fits n e t) {s1 t1 s2 : Nat} {p1 u1 u2 : Value} (hr : fn.results = #[.cell s1 t1, .tmp s2])
    (hv1 : look e s1 = some (none, p1)) (hv2 : look e s2 = some (none, u2)) (h1 : RV P w t1 p1 u1) : (results fn t).run P w = .ok (.tuple ⟨[u1, u2]⟩) w := by
  obtain ⟨a1, rfl, e1⟩ := h1
  have h1 : t.getD s1 undef = .pointer (some a1) := (hf.get _ _ _ hv1).2
  have h2 : t.getD s2 undef = u2 := (hf.get _ _ _ hv2).2
  simp only [results, hr, List.mapM_toArray, List.mapM_cons, List.mapM_nil, h1, h2, asAddr, Sem.run_bind, Sem.run_map, Sem.run_pure, Result.andThen_ok, e1]
  rfl
theorem resCTT (hf : Fits n e t) {s1 t1 s2 s3 : Nat} {p1 u1 u2 u3 : Value} (hr : fn.results = #[.cell s1 t1, .tmp s2, .tmp s3])
    (hv1 : look e s1 = some (none, p1)) (hv2 : look e s2 = some (none, u2)) (hv3 : look e s3 = some (none, u3)) (h1 : RV P w t1 p1 u1) : (results fn t).run P w = .ok (.tuple ⟨[u1, u2, u3]⟩) w := by
  obtain ⟨a1, rfl, e1⟩ := h1
  have h1 : t.getD s1 undef = .pointer (some a1) := (hf.get _ _ _ hv1).2
  have h2 : t.getD s2 undef = u2 := (hf.get _ _ _ hv2).2
  have h3 : t.getD s3 undef = u3 := (hf.get _ _ _ hv3).2
  simp only [results, hr, List.mapM_toArray, List.mapM_cons, List.mapM_nil, h1, h2, h3, asAddr, Sem.run_bind, Sem.run_map, Sem.run_pure, Result.andThen_ok, e1]
  rfl
theorem G.retCTP {X : Cx} {k : List Kt} {S : Value → World → Prop} {Z : List PanicEntry → World → Prop} (hX : X.fin = retFinP P fn S Z) (hd : X.ds = []) {s1 t1 s2 : Nat} {p1 u1 u2 : Value}
    (h1 : RV P w t1 p1 u1) (h : S (.tuple ⟨[u1, u2]⟩) w) (hr : fn.results = #[.cell s1 t1, .tmp s2]) (hv1 : look e s1 = some (none, p1)) (hv2 : look e s2 = some (none, u2)) : G X (.code .ret :: k) e w :=
  G.retP hX hd _ (fun _ hf => resCT hf hr hv1 hv2 h1) h
theorem G.retCTT {X : Cx} {k : List Kt} {R : Value → World → Prop} (hX : X.fin = retFin P fn R) (hd : X.ds = []) {s1 t1 s2 s3 : Nat} {p1 u1 u2 u3 : Value}
    (h1 : RV P w t1 p1 u1) (h : R (.tuple ⟨[u1, u2, u3]⟩) w) (hr : fn.results = #[.cell s1 t1, .tmp s2, .tmp s3]) (hv1 : look e s1 = some (none, p1)) (hv2 : look e s2 = some (none, u2)) (hv3 : look e s3 = some (none, u3)) : G X (.code .ret :: k) e w := by
  refine G.ret fun t hf => ?_
  rw [hX, hd]
  exact ⟨rfl, _, resCTT hf hr hv1 hv2 hv3 h1, _, rfl, h⟩
end Go.Vg
end
section
namespace Go.Proofs
open Go.Shelf
def Tryz.sortL_ren : Go.Shelf.Ren := ⟨fun | 6 => 118 | 15 => 146 | 14 => 145 | 28 => 174 | 29 => 175 | 20 => 166 | 21 => 167 | 22 => 168 | 23 => 169 | 24 => 170 | 25 => 171 | 26 => 172 | 27 => 173 | 46 => 188 | 47 => 189 | 48 => 190 | 49 => 191 | 50 => 192 | 57 => 195 | n => n, fun | 22 => 41 | 24 => 76 | 25 => 166 | 3 => 3 | 39 => 130 | 0 => 0 | 53 => 159 | 55 => 82 | 4 => 4 | 46 => 200 | 45 => 199 | 50 => 114 | 5 => 5 | 9 => 9 | 66 => 218 | 70 => 221 | 76 => 224 | 77 => 175 | n => n, fun | n => n⟩
theorem Tryz.sortL : Go.Proofs.SlLaysF0.n6 Tryz.prog Tryz.sortL_ren := {
  mixed := by kernel_rfl
  f6 := ⟨Tryz.f118.name, by decide, Tryz.func118.trans (congrArg some (by kernel_rfl))⟩
  f14 := ⟨Tryz.f145.name, by decide, Tryz.func145.trans (congrArg some (by kernel_rfl))⟩
  f15 := Tryz.func146.trans (congrArg some (by kernel_rfl))
  f20 := ⟨Tryz.f166.name, by decide, Tryz.func166.trans (congrArg some (by kernel_rfl))⟩
  f21 := ⟨Tryz.f167.name, by decide, Tryz.func167.trans (congrArg some (by kernel_rfl))⟩
  f22 := ⟨Tryz.f168.name, by decide, Tryz.func168.trans (congrArg some (by kernel_rfl))⟩
  f23 := ⟨Tryz.f169.name, by decide, Tryz.func169.trans (congrArg some (by kernel_rfl))⟩
  f24 := ⟨Tryz.f170.name, by decide, Tryz.func170.trans (congrArg some (by kernel_rfl))⟩
  f25 := ⟨Tryz.f171.name, by decide, Tryz.func171.trans (congrArg some (by kernel_rfl))⟩
  f26 := ⟨Tryz.f172.name, by decide, Tryz.func172.trans (congrArg some (by kernel_rfl))⟩
  f27 := ⟨Tryz.f173.name, by decide, Tryz.func173.trans (congrArg some (by kernel_rfl))⟩
  f28 := Tryz.func174.trans (congrArg some (by kernel_rfl))
  f29 := Tryz.func175.trans (congrArg some (by kernel_rfl))
  f46 := ⟨Tryz.f188.name, by decide, Tryz.func188.trans (congrArg some (by kernel_rfl))⟩
  f47 := Tryz.func189.trans (congrArg some (by kernel_rfl))
  f48 := Tryz.func190.trans (congrArg some (by kernel_rfl))
  f49 := ⟨Tryz.f191.name, by decide, Tryz.func191.trans (congrArg some (by kernel_rfl))⟩
  f50 := ⟨Tryz.f192.name, by decide, Tryz.func192.trans (congrArg some (by kernel_rfl))⟩
  f57 := ⟨Tryz.f195.name, by decide, Tryz.func195.trans (congrArg some (by kernel_rfl))⟩
  t0 := Tryz.underlying0
  a0 := Tryz.isAgg0
  z0 := Tryz.sizeOf0
  v0 := Tryz.zeroValue0
  t3 := Tryz.underlying3
  a3 := Tryz.isAgg3
  z3 := Tryz.sizeOf3
  v3 := Tryz.zeroValue3
  t4 := Tryz.underlying4
  a4 := Tryz.isAgg4
  z4 := Tryz.sizeOf4
  v4 := Tryz.zeroValue4
  t5 := Tryz.underlying5
  a5 := Tryz.isAgg5
  z5 := Tryz.sizeOf5
  v5 := Tryz.zeroValue5
  t9 := Tryz.underlying9
  a9 := Tryz.isAgg9
  z9 := Tryz.sizeOf9
  v9 := Tryz.zeroValue9
  t22 := Tryz.underlying41
  a22 := Tryz.isAgg41
  z22 := Tryz.sizeOf41
  v22 := Tryz.zeroValue41
  t25 := Tryz.underlying166
  a25 := Tryz.isAgg166
  z25 := Tryz.sizeOf166
  v25 := Tryz.zeroValue166
  t39 := Tryz.underlying130
  a39 := Tryz.isAgg130
  z39 := Tryz.sizeOf130
  v39 := Tryz.zeroValue130
  t45 := Tryz.underlying199
  a45 := Tryz.isAgg199
  z45 := Tryz.sizeOf199
  v45 := Tryz.zeroValue199
  t46 := Tryz.underlying200
  a46 := Tryz.isAgg200
  z46 := Tryz.sizeOf200
  v46 := Tryz.zeroValue200
  t50 := Tryz.underlying114
  a50 := Tryz.isAgg114
  z50 := Tryz.sizeOf114
  v50 := Tryz.zeroValue114
  t53 := Tryz.underlying159
  a53 := Tryz.isAgg159
  z53 := Tryz.sizeOf159
  v53 := Tryz.zeroValue159
  t55 := Tryz.underlying82
  a55 := Tryz.isAgg82
  z55 := Tryz.sizeOf82
  v55 := Tryz.zeroValue82
  t66 := Tryz.underlying218
  a66 := Tryz.isAgg218
  z66 := Tryz.sizeOf218
  v66 := Tryz.zeroValue218
  t70 := Tryz.underlying221
  a70 := Tryz.isAgg221
  z70 := Tryz.sizeOf221
  v70 := Tryz.zeroValue221
  t76 := Tryz.underlying224
  a76 := Tryz.isAgg224
  z76 := Tryz.sizeOf224
  v76 := Tryz.zeroValue224
  t77 := Tryz.underlying175
  a77 := Tryz.isAgg175
  z77 := Tryz.sizeOf175
  v77 := Tryz.zeroValue175 }
end Go.Proofs
end
section
open Go Go.Vg Go.RowKit Go.Proofs Go.Proofs.YtcngoccnfmhhnaaGreatDoor
namespace Go.Proofs.YtcngoccnfmhhnaaGreatDoor
namespace Num

def rngC (a b : Int) (c : UInt8) : Bool := decide (a ≤ c.toNat) && decide ((c.toNat : Int) ≤ b)
theorem drop_at {s : List UInt8} {k : Nat} (h : k < s.length) : s.drop k = s.getD k 0 :: s.drop (k + 1) := by
  rw [List.drop_eq_getElem_cons h]; simp [List.getD, h]
theorem wrap_u64m (n : Int) : IntKind.u64.wrap n = n % 18446744073709551616 := rfl
theorem all_take {p : UInt8 → Bool} {s : List UInt8} {k : Nat} (h : k < s.length) (ha : (s.take k).all p = true) : (s.take (k + 1)).all p = p (s.getD k 0) := by
  rw [List.take_succ_eq_append_getElem h, List.all_append, ha]
  simp [List.getD, h]
theorem hasPrefixL_ok (s p : List UInt8) (w : World) : Ret Tryz.prog 193 ⟨[S s, S p]⟩ w fun r w' => r = .bool (Lib.hasPrefix s p) ∧ w' = w :=
  Calls.mono (Any.stringslite_HasPrefix { Tryz.lays99 with } ⟨⟨s⟩⟩ ⟨⟨p⟩⟩ w) fun _ _ ⟨he, hw⟩ => ⟨_, he, rfl, hw⟩
theorem cutPrefixL_ok (s p : List UInt8) (w : World) : Ret Tryz.prog 186 ⟨[S s, S p]⟩ w fun r w' => r = (match Lib.hasPrefix s p with | true => .tuple ⟨[S (s.drop p.length), .bool true]⟩ | false => .tuple ⟨[S s, .bool false]⟩) ∧ w' = w := by
  have hpl : Lib.hasPrefix s p = true → p.length ≤ s.length := fun h => (List.isPrefixOf_iff_prefix.1 h).length_le
  refine ret_of_G Tryz.func186 rfl Tryz.ntmps186 rfl ?_
  simp only [argEnv]
  refine rn ?_
  refine sCallq c193 (fun _ => hasPrefixL_ok s p w) ?_
  refine rn ?_
  cases h : Lib.hasPrefix s p with
  | false =>
    refine rn ?_
    refine G.ret2 rfl rfl rfl rfl rfl ?_
    exact ⟨rfl, rfl⟩
  | true =>
    have := hpl h
    refine rn ?_
    refine GL.cons (Step.sliceSl tb p.length rfl (Op1.of rfl (by first | exact fun _ => rfl | exact fun h => h | exact fun h => bL h | exact fun h => bL (bL h) | exact fun h => bL (bL (bL h)))) (Op1.of rfl (by first | exact fun _ => rfl | exact fun h => h | exact fun h => bL h | exact fun h => bL (bL h) | exact fun h => bL (bL (bL h)))) rfl (fun _ => ⟨rfl, this⟩) rfl ?_)
    refine rn ?_
    refine G.ret2 rfl rfl rfl rfl rfl ?_
    exact ⟨rfl, rfl⟩
theorem cutPrefix_ok (s p : List UInt8) (w : World) : Ret Tryz.prog 164 ⟨[S s, S p]⟩ w fun r w' => r = (match Lib.hasPrefix s p with | true => .tuple ⟨[S (s.drop p.length), .bool true]⟩ | false => .tuple ⟨[S s, .bool false]⟩) ∧ w' = w := by
  have hc := cutPrefixL_ok s p w
  refine ret_of_G Tryz.func164 rfl Tryz.ntmps164 rfl ?_
  simp only [argEnv]
  refine rn ?_
  refine sCall c186 (hc) ?_
  rintro r w1 ⟨rfl, hw⟩
  cases h : Lib.hasPrefix s p with
  | false =>
    refine rn ?_
    refine G.ret2 rfl rfl rfl rfl rfl ?_
    exact ⟨rfl, hw⟩
  | true =>
    refine rn ?_
    refine G.ret2 rfl rfl rfl rfl rfl ?_
    exact ⟨rfl, hw⟩
abbrev dig (c : UInt8) : Bool := rngC 48 57 c
theorem numDigit_ok (c : UInt8) (w : World) : Ret Tryz.prog 187 ⟨[U c]⟩ w fun r w' => r = .bool (dig c) ∧ w' = w := by
  refine ret_of_G Tryz.func187 rfl Tryz.ntmps187 rfl ?_
  simp only [argEnv]
  refine rn ?_
  refine G.ret1 rfl rfl rfl rfl ?_
  exact ⟨rfl, rfl⟩
/-- how many digits a text begins with -/
def runP (s : List UInt8) : Nat := (s.takeWhile dig).length
theorem runP_at {s : List UInt8} {k : Nat} (hk : k ≤ s.length) (ha : (s.take k).all dig = true) (he : ¬ (k < s.length) ∨ dig (s.getD k 0) = false) : runP s = k := by
  have e : s = s.take k ++ s.drop k := (List.take_append_drop k s).symm
  have ha' : ∀ a ∈ s.take k, dig a = true := by simpa using ha
  unfold runP
  rw [e, List.takeWhile_append_of_pos ha', List.length_append, List.length_take, Nat.min_eq_left hk]
  have : (s.drop k).takeWhile dig = [] := by
    rcases he with h | h
    · rw [List.drop_of_length_le (by omega)]; rfl
    · by_cases hlt : k < s.length
      · rw [drop_at hlt, List.takeWhile_cons, h]; rfl
      · rw [List.drop_of_length_le (by omega)]; rfl
  rw [this]; rfl
theorem run_ok (s : List UInt8) (w : World) (hs : s.length ≤ 9223372036854775806) : Ret Tryz.prog 165 ⟨[S s]⟩ w fun r w' => r = .int .i64 (runP s) ∧ w' = w := by
  refine ret_of_G Tryz.func165 rfl Tryz.ntmps165 rfl ?_
  simp only [argEnv]
  refine rn ?_
  refine (G.loop (fun k : Nat => [(0, none, S s), (3, none, .int .i64 k)]) (fun k w' => w' = w ∧ k ≤ s.length ∧ (s.take k).all dig = true) (fun k => s.length - k) 0 (by repeat (first | exact Sub.nil _ | refine Sub.cons rfl ?_)) ⟨rfl, by omega, by simp⟩ ?_)
  rintro k w1 ⟨rfl, hk, hall⟩
  refine rn ?_
  refine sBs tb k ?_
  refine sCallq c187 (fun _ => numDigit_ok _ w1) ?_
  refine rn ?_
  first | refine G.condD rfl (fun hc => ?_) (fun hc => ?_) | refine G.condN rfl (fun hc => ?_) (fun hc => ?_) | refine G.cond rfl (fun hc => ?_) (fun hc => ?_)
  · simp only [Bool.and_eq_true, decide_eq_true_eq] at hc
    obtain ⟨h1, h2⟩ := hc
    have hlt : k < s.length := by omega
    refine rn ?_
    refine sAd tb ?_
    refine rn ?_
    exact G.lp (k + 1) (by repeat (first | exact Sub.nil _ | refine Sub.cons rfl ?_)) ⟨rfl, by omega, by rw [all_take hlt hall, h2]⟩ (by omega)
  · have hr := runP_at hk hall (by
      simp only [Bool.and_eq_false_iff, decide_eq_false_iff_not] at hc
      rcases hc with h | h
      · exact .inl (by omega)
      · exact .inr h)
    refine rn ?_
    refine G.ret1 rfl rfl rfl rfl ?_
    exact ⟨by rw [hr], rfl⟩
/-- digits read below 0 -/
def intL : Int → List UInt8 → Option Int
  | n, [] => some n
  | n, c :: r => if n < (-9223372036854775808 + ((c.toNat : Int) - 48)).tdiv 10 then none else intL (10 * n - ((c.toNat : Int) - 48)) r
def restP (s : List UInt8) : List UInt8 := if Lib.hasPrefix s [45] = true then s.drop 1 else s
def badP (s : List UInt8) : Bool := (decide (restP s = []) || !decide ((runP (restP s) : Int) = (restP s).length)) || (decide (((restP s).getD 0 0).toNat = (48 : Int)) && !decide (s = [48]))
/-- a whole number as it is written -/
def intP (s : List UInt8) : Option Int := if badP s = true then none else match intL 0 (restP s) with
  | none => none
  | some n => if Lib.hasPrefix s [45] = true then some n else if n = -9223372036854775808 then none else some (-n)
theorem runP_all {s : List UInt8} (h : runP s = s.length) : s.all dig = true := by
  have : s.takeWhile dig = s := List.IsPrefix.eq_of_length (List.takeWhile_prefix dig) h
  rw [← this]
  simp
theorem int_ok (s : List UInt8) (w : World) (hs : s.length ≤ 4000000000) : Ret Tryz.prog 143 ⟨[S s]⟩ w fun r w' => r = (match intP s with | some n => .tuple ⟨[.int .i64 n, .int .i64 0]⟩ | none => .tuple ⟨[.int .i64 0, .int .i64 8]⟩) ∧ w' = w := by
  have hrl : (restP s).length ≤ 4000000000 := by
    unfold restP
    split
    · rw [List.length_drop]; omega
    · exact hs
  have hcp : (match Lib.hasPrefix s [45] with | true => Value.tuple ⟨[S (s.drop ([45] : List UInt8).length), .bool true]⟩ | false => .tuple ⟨[S s, .bool false]⟩) = .tuple ⟨[S (restP s), .bool (Lib.hasPrefix s [45])]⟩ := by
    unfold restP
    cases Lib.hasPrefix s [45] <;> rfl
  refine ret_of_G Tryz.func143 rfl Tryz.ntmps143 rfl ?_
  simp only [argEnv]
  refine rn ?_
  refine sCall c164 (cutPrefix_ok s [45] w) ?_
  rintro r w1 ⟨rfl, hw⟩
  obtain rfl : w = w1 := hw.symm
  rw [hcp]
  refine rn ?_
  refine sCallq c165 (fun _ => run_ok (restP s) w (by omega)) ?_
  refine rn ?_
  refine sBs tb 0 ?_ (hj := fun hc => ⟨rfl, by
    simp only [cv, Bool.not_eq_true', Bool.or_eq_false_iff, decide_eq_false_iff_not] at hc
    exact List.length_pos_iff.2 hc.1⟩)
  refine rn ?_
  first | refine G.condD rfl (fun hc => ?_) (fun hc => ?_) | refine G.condN rfl (fun hc => ?_) (fun hc => ?_) | refine G.cond rfl (fun hc => ?_) (fun hc => ?_)
  · have hb : badP s = true := hc
    refine rn ?_
    refine G.ret2 rfl rfl rfl rfl rfl ?_
    exact ⟨by unfold intP; rw [if_pos hb], rfl⟩
  · have hb : badP s = false := hc
    have hall : (restP s).all dig = true := by
      refine runP_all ?_
      unfold badP at hb
      simp only [Bool.or_eq_false_iff, Bool.not_eq_false', decide_eq_true_eq] at hb
      exact_mod_cast hb.1.2
    have hpi : intP s = match intL 0 (restP s) with
        | none => none
        | some n => if Lib.hasPrefix s [45] = true then some n else if n = -9223372036854775808 then none else some (-n) := by
      unfold intP; rw [if_neg (by rw [hb]; simp)]
    clear hc hb hcp
    generalize restP s = rest at hrl hall hpi ⊢
    generalize Lib.hasPrefix s [45] = neg at hpi ⊢
    refine rn ?_
    refine (G.loop (fun x : Nat × Int => [(5, none, .bool neg), (4, none, S rest), (6, none, .int .i64 x.2), (33, none, .int .i64 rest.length), (34, none, .int .i64 x.1)])
      (fun x W => W = w ∧ x.1 ≤ rest.length ∧ -9223372036854775808 ≤ x.2 ∧ x.2 ≤ 0 ∧ intL x.2 (rest.drop x.1) = intL 0 rest) (fun x => rest.length - x.1) (0, 0) (by repeat (first | exact Sub.nil _ | refine Sub.cons rfl ?_)) ⟨rfl, by simp, by simp, by simp, by simp⟩ ?_)
    rintro ⟨k, n⟩ W ⟨rfl, hk, hn1, hn2, hin⟩
    simp only at hk hn1 hn2 hin ⊢
    refine rn ?_
    first | refine G.condD rfl (fun hc => ?_) (fun hc => ?_) | refine G.condN rfl (fun hc => ?_) (fun hc => ?_) | refine G.cond rfl (fun hc => ?_) (fun hc => ?_)
    · have hlt : k < rest.length := by omega
      rw [drop_at hlt] at hin
      have hd : dig (rest.getD k 0) = true := by
        have := List.all_eq_true.1 hall rest[k] (List.getElem_mem hlt)
        simpa [List.getD, hlt] using this
      unfold dig rngC at hd
      simp only [Bool.and_eq_true, decide_eq_true_eq] at hd
      refine rn ?_
      refine sBs tb k ?_
      generalize rest.getD k 0 = c at hin hd ⊢
      have htd : (-9223372036854775808 + ((c.toNat : Int) - 48)).tdiv 10 = -((9223372036854775808 - ((c.toNat : Int) - 48)) / 10) := by
        rw [show (-9223372036854775808 + ((c.toNat : Int) - 48)) = -(9223372036854775808 - ((c.toNat : Int) - 48)) by omega, Int.neg_tdiv, Int.tdiv_eq_ediv_of_nonneg (by omega)]
      simp only [intL] at hin
      rw [htd] at hin
      refine sAr (r := (c.toNat : Int) - 48) ?_ (hp := (Go.Vg.wrap_u8 _).trans (by omega))
      refine sCv tb (r := (c.toNat : Int) - 48) ?_
      refine rn ?_
      refine sAr (r := -9223372036854775808 + ((c.toNat : Int) - 48)) ?_ (hp := wrap_i64 (by omega) (by omega))
      refine sQuo (r := -((9223372036854775808 - ((c.toNat : Int) - 48)) / 10)) (by rw [htd]; exact wrap_i64 (by omega) (by omega)) ?_
      refine rn ?_
      first | refine G.condD rfl (fun hc => ?_) (fun hc => ?_) | refine G.condN rfl (fun hc => ?_) (fun hc => ?_) | refine G.cond rfl (fun hc => ?_) (fun hc => ?_)
      · rw [if_pos hc] at hin
        have : intP s = none := by rw [hpi, ← hin]
        refine rn ?_
        refine G.ret2 rfl rfl rfl rfl rfl ?_
        exact ⟨by rw [this], rfl⟩
      · rw [if_neg hc] at hin
        refine rn ?_
        refine sAr (r := 10 * n) ?_ (hp := wrap_i64 (by omega) (by omega))
        refine rn ?_
        refine sAr (r := 10 * n - ((c.toNat : Int) - 48)) ?_ (hp := wrap_i64 (by omega) (by omega))
        refine rn ?_
        refine sAd tb ?_
        refine rn ?_
        exact G.lp (x := (k, n)) (k + 1, 10 * n - ((c.toNat : Int) - 48)) (by repeat (first | exact Sub.nil _ | refine Sub.cons rfl ?_)) ⟨rfl, by simp only; omega, by simp only; omega, by simp only; omega, hin⟩ (by simp only; omega)
    · obtain rfl : k = rest.length := by omega
      rw [List.drop_length] at hin
      have hi2 : intL 0 rest = some n := by rw [← hin]; rfl
      rw [hi2] at hpi
      simp only at hpi
      refine rn ?_
      first | refine G.condD rfl (fun hc => ?_) (fun hc => ?_) | refine G.condN rfl (fun hc => ?_) (fun hc => ?_) | refine G.cond rfl (fun hc => ?_) (fun hc => ?_)
      · subst hc
        refine rn ?_
        refine G.ret2 rfl rfl rfl rfl rfl ?_
        exact ⟨by rw [hpi]; rfl, rfl⟩
      · subst hc
        refine rn ?_
        first | refine G.condD rfl (fun hc => ?_) (fun hc => ?_) | refine G.condN rfl (fun hc => ?_) (fun hc => ?_) | refine G.cond rfl (fun hc => ?_) (fun hc => ?_)
        · refine rn ?_
          refine G.ret2 rfl rfl rfl rfl rfl ?_
          exact ⟨by rw [hpi, if_neg (by simp), if_pos hc], rfl⟩
        · refine rn ?_
          refine sNeg ?_
          refine rn ?_
          refine G.ret2 rfl rfl rfl rfl rfl ?_
          exact ⟨by rw [hpi, if_neg (by simp), if_neg hc]; simp, rfl⟩
end Num
end Go.Proofs.YtcngoccnfmhhnaaGreatDoor
end
section
open Go Go.Vg Go.RowKit Go.Proofs Go.Proofs.YtcngoccnfmhhnaaGreatDoor
namespace Go.Proofs.YtcngoccnfmhhnaaGreatDoor
open Go.Ex

def nameB : List UInt8 := [95, 95, 110, 97, 109, 101, 95, 95]
/-- a line's cells, without labels -/
def linC (v : Value) (x : Nat) (t : Option Int) : List Value := [v, Fl x, .int .i64 (t.getD 0), .bool t.isSome]
theorem sample_ok (w : World) (rb : Nat) (s : List UInt8) (h : Rd w rb s 0) :
    RetP Tryz.prog 116 ⟨[ptr rb]⟩ w (fun r w' => ∃ L v, sampleP Num.intP s = some L ∧ r = .tuple ⟨[.agg ⟨linC (.slice none 0 0) L.val L.time⟩, v]⟩ ∧ Lab.LO w' w.heap.size v ((nameB, L.name) :: L.labs) ∧ Kp rb w w') (fun ch w' => sampleP Num.intP s = none ∧ Bad ch ∧ Kp rb w w') := by
  have hs := h.hs
  have hrb := h.bx.lt
  refine ret_of_GP Tryz.func116 rfl Tryz.ntmps116 rfl ?_
  simp only [argEnv]
  refine rn ?_
  refine sAl tb ?_
  intro W1 hb1 hs1 hx1
  obtain ⟨xb, hxb⟩ : ∃ xb, xb = w.heap.size := ⟨_, rfl⟩
  rw [← hxb] at hb1 hs1 hrb ⊢
  have hr1 := h.to hx1
  refine rn ?_
  refine sCall c58 (blanks_ok W1 rb s 0 hr1) ?_
  rintro _ W2 ⟨rfl, hr2, hk2⟩
  have hb2 := hb1.kp hk2 (by omega)
  have hk02 := hx1.kp.trans hk2
  have hB2 : xb + 1 ≤ W2.heap.size := by have := hk2.size; omega
  have hsk0 := skipB_drop s 0
  rw [List.drop_zero] at hsk0
  rw [List.drop_zero] at hr2 ⊢
  generalize 0 + bls s = k0 at hr2 hsk0
  refine rn ?_
  refine sCallP c60 (name_ok true W2 rb s k0 hr2) (fun ch w' hz => px_P rfl rfl ?_) ?_
  · refine ⟨?_, hz.2.1, hk02.trans hz.2.2⟩
    unfold sampleP; rw [hsk0, hz.1]
  rintro _ W3 ⟨nm, hn, rfl, hr3, hk3⟩
  have hb3 := hb2.kp hk3 (by omega)
  have hk03 := hk02.trans hk3
  have hB3 := Nat.le_trans hB2 hk3.size
  have hsam : sampleP Num.intP s = if (skipB (s.drop (k0 + nm.length))).head? = some 123 then match labsP (skipB (s.drop (k0 + nm.length))) with
      | none => none
      | some (ls, l2) => match numsP Num.intP (skipB l2) with
        | none => none
        | some (v, t) => some ⟨nm, ls, v, t⟩
    else if bls (s.drop (k0 + nm.length)) = 0 then none else match numsP Num.intP (skipB (s.drop (k0 + nm.length))) with
      | none => none
      | some (v, t) => some ⟨nm, [], v, t⟩ := by
    unfold sampleP
    rw [hsk0, hn]
    all_goals ((try simp only) <;> (try (generalize labsP _ = q; generalize numsP _ _ = q'; rcases q with _ | ⟨ls, l2⟩ <;> rcases q' with _ | ⟨v, t⟩ <;> (try simp only) <;> (try generalize numsP _ _ = q2; rcases q2 with _ | ⟨v2, t2⟩ <;> rfl) <;> rfl)))
  refine rn ?_
  refine sBs' tb [Lab.labC (nameB, nm)] (fun v W4 ho4 hs4 hx4 => ?_) (hkl := by simp [Lab.labC])
  have hr4 := hr3.to hx4
  have hb4 := hb3.to hx4
  have hk04 := hk03.trans hx4.kp
  have hB4 := Nat.le_trans hB3 hx4.size
  have ho4 : Lab.LO W4 (xb + 1) v [(nameB, nm)] := ho4.mono (by omega)
  clear hb1 hs1 hx1 hr1 hk2 hb2 hk02 hr2 hB2 hk3 hb3 hk03 hB3 hr3 hx4
  refine rn ?_
  refine sCall c58 (blanks_ok W4 rb s (k0 + nm.length) hr4) ?_
  rintro _ W5 ⟨rfl, hr5, hk5⟩
  have ho5 := ho4.kp hk5 (by omega)
  have hb5 := hb4.kp hk5 (by omega)
  have hk05 := hk04.trans hk5
  have hB5 := Nat.le_trans hB4 hk5.size
  have hsk1 := skipB_drop s (k0 + nm.length)
  rw [hsk1] at hsam
  generalize k0 + nm.length + bls (s.drop (k0 + nm.length)) = k1 at hr5 hsk1 hsam
  generalize hbl : bls (s.drop (k0 + nm.length)) = bn at hsam ⊢
  refine rn ?_
  refine sCall c140 (is_ok 123 W5 rb s k1 hr5) ?_
  rintro _ W6 ⟨rfl, hx6⟩
  have hr6 := hr5.to hx6
  have ho6 := ho5.to hx6
  have hb6 := hb5.to hx6
  have hk06 := hk05.trans hx6.kp
  have hB6 := Nat.le_trans hB5 hx6.size
  clear hs4 ho4 hb4 hk04 hB4 hr4 hk5 ho5 hb5 hk05 hB5 hr5 hx6
  refine lgN tb 3 ?_
  refine G.join (fun x : Nat × Value × Bool => [(0, none, ptr rb), (2, none, ptr xb), (3, none, x.2.1), (4, none, .bool x.2.2)]) (fun x W => Rd W rb s x.1 ∧ Kp rb w W ∧ xb + 1 ≤ W.heap.size ∧ Bx W xb (linC (.slice none 0 0) 0 none) ∧ ∃ ls, Lab.LO W (xb + 1) x.2.1 ((nameB, nm) :: ls) ∧ sampleP Num.intP s = if x.2.2 then match numsP Num.intP (s.drop x.1) with
      | none => none
      | some (v, t) => some ⟨nm, ls, v, t⟩ else none) ?_ ?_
  · rintro ⟨k, v, rdy⟩ W ⟨hr, hk, hB, hb, ls, ho, hsam⟩
    simp only at hr ho hsam ⊢
    clear ho6 hb6 hk06 hB6 hr6
    have hbx := hr.bx
    cases rdy
    · simp only [Bool.false_eq_true, if_false] at hsam
      refine rn ?_
      refine sCallP c94 (fail_ok rb k 8 W (by decide)) (fun ch w' hz => px_P rfl rfl ?_) ?_
      · exact ⟨hsam, hz.1, by rw [hz.2]; exact hk⟩
      · rintro _ _ ⟨⟩
    simp only [if_true] at hsam
    refine rn ?_
    refine sCallP c59 (token_ok W rb s k hr) (fun ch w' hz => px_P rfl rfl ?_) ?_
    · refine ⟨?_, hz.2.1, hk.trans hz.2.2⟩
      rw [hsam]; unfold numsP; rw [hz.1]
    rintro _ W1 ⟨tk, htk, rfl, hr1, hk1⟩
    have htl := tokP_len htk
    have hb1 := hb.kp hk1 (by omega)
    have ho1 := ho.kp hk1 (by omega)
    have hk1' := hk.trans hk1
    have hB1 := Nat.le_trans hB hk1.size
    have hkl := hr.hi
    simp only [List.length_drop] at htl
    clear hr hb ho hk hk1 hbx
    refine rn ?_
    refine sCall c142 (parse_ok tk W1 (by omega)) ?_
    rintro _ W2 ⟨hp, hx2⟩
    have hr2 := hr1.to hx2
    have hb2 := hb1.to hx2
    have ho2 := ho1.to hx2
    have hk2 := hk1'.trans hx2.kp
    have hB2 := Nat.le_trans hB1 hx2.size
    clear hr1 hb1 ho1 hk1' hx2
    unfold ParseR at hp
    cases hpp : Nm.parseP tk with
    | none =>
      rw [hpp] at hp
      simp only at hp
      subst hp
      refine rn ?_
      refine sCallP c94 (fail_ok rb k 8 W2 (by decide)) (fun ch w' hz => px_P rfl rfl ?_) ?_
      · refine ⟨?_, hz.1, by rw [hz.2]; exact hk2⟩
        rw [hsam]; unfold numsP; rw [htk]; simp only; rw [hpp]
      · rintro _ _ ⟨⟩
    | some x =>
      rw [hpp] at hp
      simp only at hp
      subst hp
      unfold linC at hb2
      refine rn ?_
      refine sSf tb (fun W3 hb3 hw3 => ?_) (h1 := by simp [Value.oneCell', Fl])
      have hr3 := hr2.kp hw3.kp (by omega)
      have ho3 := ho2.kp hw3.kp (by omega)
      have hk3 : Kp rb w W3 := hk2.new hw3.kp (by omega)
      have hB3 : xb + 1 ≤ W3.heap.size := by rw [hw3.size]; exact hB2
      have hb3 : Bx W3 xb (linC (.slice none 0 0) x none) := hb3
      clear hr2 hb2 ho2 hk2 hw3
      refine rn ?_
      refine sCall c58 (blanks_ok W3 rb s (k + tk.length) hr3) ?_
      rintro _ W4 ⟨rfl, hr4, hk4⟩
      have hsk := skipB_drop s (k + tk.length)
      generalize k + tk.length + bls (s.drop (k + tk.length)) = k2 at hr4 hsk
      have hb4 := hb3.kp hk4 (by omega)
      have ho4 := ho3.kp hk4 (by omega)
      have hk4' := hk3.trans hk4
      have hB4 := Nat.le_trans hB3 hk4.size
      clear hr3 hb3 ho3 hk3 hk4
      refine rn ?_
      refine G.regionM [(0, true), (1, true), (2, true), (3, true), (4, true), (5, true), (6, true), (7, true), (8, true), (9, true)] (Ext W4) (by kernel_rfl) (by kernel_rfl) rfl mixed (Ext.drew W4) rfl ?_
      have hbx := hr4.bx
      refine rd ?_
      refine GM.nil ?_
      have hr5 := hr4.to (Ext.drew W4)
      have hb5 := hb4.to (Ext.drew W4)
      have ho5 := ho4.to (Ext.drew W4)
      have hk5 := hk4'.trans (Ext.drew W4).kp
      have hB5 : xb + 1 ≤ W4.drew.heap.size := hB4
      have hkl5 := hr5.hi
      have hnum : numsP Num.intP (s.drop k) = if s.drop k2 = [] then some (x, none) else
          match tokP (s.drop k2) with
          | none => none
          | some (t2, l2) => match Num.intP t2 with
            | none => none
            | some n => if n < -9007199254740992 ∨ 9007199254740992 < n then none else if skipB l2 = [] then some (x, some n) else none := by
        unfold numsP
        rw [htk]
        simp only
        rw [hpp]
        simp only
        rw [hsk]
        try (generalize tokP _ = q; rcases q with _ | ⟨t2, l2⟩ <;> (try rfl) <;> (simp only; generalize Num.intP _ = q; rcases q with _ | n <;> rfl))
      generalize numsP Num.intP (s.drop k) = nums at hnum hsam
      clear hr4 hb4 ho4 hk4' hB4 hbx hsk htk hpp
      generalize W4.drew = W5 at hr5 hb5 ho5 hk5 hB5 ⊢
      refine G.join (fun y : Nat × Option Int => [(0, none, ptr rb), (2, none, ptr xb), (3, none, v)]) (fun y W => Rd W rb s y.1 ∧ Kp rb w W ∧ Bx W xb (linC (.slice none 0 0) x y.2) ∧ Lab.LO W (xb + 1) v ((nameB, nm) :: ls) ∧ nums = if s.drop y.1 = [] then some (x, y.2) else none) ?_ ?_
      · clear hr5 hb5 ho5 hk5 hB5 hnum
        rintro ⟨k3, tt⟩ W6 ⟨hr6, hk6, hb6, ho6, hnum⟩
        simp only at hr6 hb6 hnum ⊢
        have hbx := hr6.bx
        have hkl6 := hr6.hi
        refine rn ?_
        refine G.regionM [(0, true), (1, true), (2, true), (3, true), (4, true), (5, true), (6, true), (7, true), (8, true), (9, true)] (Ext W6) (by kernel_rfl) (by kernel_rfl) rfl mixed (Ext.drew W6) rfl ?_
        refine rd ?_
        refine GM.nil ?_
        first | refine G.condD rfl (fun hc => ?_) (fun hc => ?_) | refine G.condN rfl (fun hc => ?_) (fun hc => ?_) | refine G.cond rfl (fun hc => ?_) (fun hc => ?_)
        · have hne : ¬ s.drop k3 = [] := by rw [drop_at (by omega)]; simp
          rw [if_neg hne] at hnum
          refine rn ?_
          refine sCallP c94 (fail_ok rb k3 8 W6.drew (by decide)) (fun ch w' hz => px_P rfl rfl ?_) ?_
          · refine ⟨?_, hz.1, by rw [hz.2]; exact hk6.trans (Ext.drew W6).kp⟩
            rw [hsam, hnum]
          · rintro _ _ ⟨⟩
        · have hne : s.drop k3 = [] := drop_no (by omega)
          rw [if_pos hne] at hnum
          have hb7 := hb6.to (Ext.drew W6)
          have ho7 := ho6.to (Ext.drew W6)
          have hk7 := hk6.trans (Ext.drew W6).kp
          unfold linC at hb7
          refine rn ?_
          refine sSt tb ?_ (vs := linC (.slice none 0 0) x tt) (hv := rfl) (h1 := by
            intro y hy
            simp only [linC, List.mem_cons, List.not_mem_nil, or_false] at hy
            rcases hy with rfl | rfl | rfl | rfl <;> rfl)
          intro W8 hb8 hw8
          have ho8 := ho7.kp hw8.kp (by omega)
          have hk8 : Kp rb w W8 := hk7.new hw8.kp (by omega)
          refine rn ?_
          refine G.retCTP rfl rfl (RV.agg tb hb8.cells) ?_ rfl rfl rfl
          exact ⟨⟨nm, ls, x, tt⟩, v, by rw [hsam, hnum], rfl, ho8.mono (by omega), hk8⟩
      · have hbx := hr5.bx
        first | refine G.condD rfl (fun hc => ?_) (fun hc => ?_) | refine G.condN rfl (fun hc => ?_) (fun hc => ?_) | refine G.cond rfl (fun hc => ?_) (fun hc => ?_)
        · have hlt : k2 < s.length := by omega
          have hne : ¬ s.drop k2 = [] := by rw [drop_at hlt]; simp
          rw [if_neg hne] at hnum
          refine rn ?_
          refine sCallP c59 (token_ok W5 rb s k2 hr5) (fun ch w' hz => px_P rfl rfl ?_) ?_
          · refine ⟨?_, hz.2.1, hk5.trans hz.2.2⟩
            rw [hsam, hnum, hz.1]
          rintro _ W6 ⟨t2, ht2, rfl, hr6, hk6⟩
          have htl2 := tokP_len ht2
          simp only [List.length_drop] at htl2
          have hb6 := hb5.kp hk6 (by omega)
          have ho6 := ho5.kp hk6 (by omega)
          have hk6' := hk5.trans hk6
          rw [ht2] at hnum
          simp only at hnum
          clear hr5 hb5 ho5 hk5 hk6 hbx
          refine rn ?_
          refine sCall c143 (Num.int_ok t2 W6 (by omega)) ?_
          rintro _ W7 ⟨rfl, hw7⟩
          obtain rfl : W6 = W7 := hw7.symm
          cases hin : Num.intP t2 with
          | none =>
            rw [hin] at hnum
            simp only at hnum ⊢
            refine rn ?_
            refine sCallP c94 (fail_ok rb k2 8 W6 (by decide)) (fun ch w' hz => px_P rfl rfl ?_) ?_
            · refine ⟨?_, hz.1, by rw [hz.2]; exact hk6'⟩
              rw [hsam, hnum]
            · rintro _ _ ⟨⟩
          | some n =>
            rw [hin] at hnum
            simp only at hnum ⊢
            unfold linC at hb6
            refine rn ?_
            refine G.cond rfl (fun hc => ?_) (fun hc => ?_)
            · have hbad : n < -9007199254740992 ∨ 9007199254740992 < n := by simpa using hc
              rw [if_pos hbad] at hnum
              refine rn ?_
              refine sCallP c94 (fail_ok rb k2 8 W6 (by decide)) (fun ch w' hz => px_P rfl rfl ?_) ?_
              · refine ⟨?_, hz.1, by rw [hz.2]; exact hk6'⟩
                rw [hsam, hnum]
              · rintro _ _ ⟨⟩
            · have hok : ¬ (n < -9007199254740992 ∨ 9007199254740992 < n) := by simpa using hc
              rw [if_neg hok] at hnum
              refine rn ?_
              refine sSf tb (fun W7 hb7 hw7 => ?_)
              refine rn ?_
              refine sSf tb (fun W8 hb8 hw8 => ?_)
              have hw68 := hw7.kp.trans hw8.kp
              have hr8 := hr6.kp hw68 (by omega)
              have ho8 := ho6.kp hw68 (by omega)
              have hk8 : Kp rb w W8 := hk6'.new hw68 (by omega)
              have hb8 : Bx W8 xb (linC (.slice none 0 0) x (some n)) := hb8
              refine rn ?_
              refine sCall c58 (blanks_ok W8 rb s (k2 + t2.length) hr8) ?_
              rintro _ W9 ⟨rfl, hr9, hk9⟩
              have hsk3 := skipB_drop s (k2 + t2.length)
              rw [hsk3] at hnum
              generalize k2 + t2.length + bls (s.drop (k2 + t2.length)) = k3 at hr9 hsk3 hnum
              refine rn ?_
              exact G.met (k3, some n) (by repeat (first | exact Sub.nil _ | refine Sub.cons rfl ?_)) ⟨hr9, hk8.trans hk9, hb8.kp hk9 (by omega), ho8.kp hk9 (by omega), hnum⟩
        · have hne : s.drop k2 = [] := drop_no (by omega)
          rw [if_pos hne] at hnum
          refine rn ?_
          exact G.met (k2, none) (by repeat (first | exact Sub.nil _ | refine Sub.cons rfl ?_)) ⟨hr5, hk5, hb5, ho5, by show nums = if s.drop k2 = [] then _ else _; rw [if_pos hne]; exact hnum⟩
  · first | refine G.condD rfl (fun hc => ?_) (fun hc => ?_) | refine G.condN rfl (fun hc => ?_) (fun hc => ?_) | refine G.cond rfl (fun hc => ?_) (fun hc => ?_)
    · rw [if_pos hc] at hsam
      refine rn ?_
      refine sCallP c141 (labels_ok W6 rb s k1 hr6) (fun ch w' hz => px_P rfl rfl ?_) ?_
      · refine ⟨?_, hz.2.1, hk06.trans hz.2.2⟩
        rw [hsam, hz.1]
      rintro v2 W7 ⟨ls, k2, hls, ho7, hr7, hk7⟩
      have hlsl : ls.length ≤ s.length := by
        have := (labsP_len hls).1
        rw [List.length_drop] at this
        omega
      have hkl7 := hr7.hi
      rw [hls] at hsam
      simp only at hsam
      have ho76 := ho6.kp hk7 (by omega)
      have hb7 := hb6.kp hk7 (by omega)
      have hk07 := hk06.trans hk7
      have hB7 := Nat.le_trans hB6 hk7.size
      refine rn ?_
      refine sApp2 tb ho76 ho7.sli (fun v' W8 hv8 hg8 ho8 => ?_) (h1 := by
        intro y hy c hc
        obtain ⟨x, _, rfl⟩ := List.mem_map.1 hy
        simp only [Lab.labC, List.mem_cons, List.not_mem_nil, or_false] at hc
        rcases hc with rfl | rfl <;> rfl)
      have hbl8 := hg8.bl
      have hr8 := hr7.below hbl8 (by omega)
      have hb8 := hb7.below hbl8 (by omega)
      have hk8 : Kp rb w W8 := kp_below hk07 (hbl8.mono (by omega))
      have hB8 := Nat.le_trans hB7 hbl8.size
      have hv8 : Lab.LO W8 (xb + 1) v' ((nameB, nm) :: ls) := hv8
      refine rn ?_
      refine sCall c58 (blanks_ok W8 rb s k2 hr8) ?_
      rintro _ W9 ⟨rfl, hr9, hk9⟩
      have hsk2 := skipB_drop s k2
      rw [hsk2] at hsam
      generalize k2 + bls (s.drop k2) = k3 at hr9 hsk2 hsam
      refine rn ?_
      exact G.met (k3, v', true) (by repeat (first | exact Sub.nil _ | refine Sub.cons rfl ?_)) ⟨hr9, hk8.trans hk9, Nat.le_trans hB8 hk9.size, hb8.kp hk9 (by omega), ls, hv8.kp hk9 (by omega), hsam⟩
    · rw [if_neg hc] at hsam
      refine rn ?_
      refine G.met (k1, v, decide (0 < bn)) (by repeat (first | exact Sub.nil _ | refine Sub.cons rfl ?_)) ⟨hr6, hk06, hB6, hb6, [], ho6, ?_⟩
      rw [hsam]
      by_cases h0 : bn = 0
      · rw [if_pos h0, decide_eq_false (by omega)]; rfl
      · rw [if_neg h0, decide_eq_true (by omega)]; rfl
end Go.Proofs.YtcngoccnfmhhnaaGreatDoor
end
