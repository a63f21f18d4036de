/- Part of the proof of a statement about the given program. -/
import Derived.Test.YtlaingmhdgpkdaaGreatDoorP03
set_option linter.unusedSimpArgs false
set_option linter.unusedVariables false
set_option linter.unusedSectionVars false
section
open Go Go.Vg Go.RowKit Go.Proofs Go.Proofs.YtlaingmhdgpkdaaGreatDoor
namespace Go.Proofs.YtlaingmhdgpkdaaGreatDoor.Num
open Go.Nm

theorem lowB_nat (c : UInt8) : ((lowB c).toNat : Int) = if 65 ≤ c.toNat ∧ c.toNat ≤ 90 then (c.toNat : Int) + 32 else c.toNat := by
  unfold lowB
  split
  · rename_i h
    rw [UInt8.toNat_add]
    have : (32 : UInt8).toNat = 32 := rfl
    rw [this]
    omega
  · rfl
theorem set_mid {α : Type} (A D : List α) (x y : α) {i : Nat} (hA : A.length = i) : (A ++ x :: D).set i y = (A ++ [y]) ++ D := by
  subst hA
  rw [List.set_append_right _ _ (Nat.le_refl _), Nat.sub_self, List.set_cons_zero, List.append_assoc]; rfl
set_option maxHeartbeats 1000000 in
theorem small_ok (s : List UInt8) (w : World) (hs : s.length ≤ 1000000) : Ret Tryz.prog 66 ⟨[S s]⟩ w fun r w' => r = S (s.map lowB) ∧ Ext w w' := by
  refine ret_of_G Tryz.func66 rfl Tryz.ntmps66 rfl ?_
  simp only [argEnv]
  refine rn ?_
  refine GL.cons (Step.strBytesF tb rfl (Op1.of rfl (fun _ => rfl)) rfl rfl rfl rfl ?_)
  intro v W1 hf1 hx1
  have hby1 := hf1.sli (by omega)
  have hsl1 : Sli W1 v 1 (bysC s) := hby1
  refine rn ?_
  rw [bysC_len]
  refine (G.loop (fun i : Nat => [(3, none, v), (8, none, v), (9, none, .int .i64 s.length), (10, none, .int .i64 i)]) (fun i W => Ext w W ∧ Frz W w.heap.size v 5 ((s.take i).map lowB ++ s.drop i) ∧ i ≤ s.length) (fun i => s.length - i) 0 (by repeat (first | exact Sub.nil _ | refine Sub.cons rfl ?_)) ⟨hx1, by simpa using hf1, Nat.zero_le _⟩ ?_)
  clear hf1 hx1 hby1 hsl1
  rintro i W ⟨hx, hf, hi⟩
  have hlen : ((s.take i).map lowB ++ s.drop i).length = s.length := by rw [List.length_append, List.length_map, List.length_take, List.length_drop]; omega
  have hby := hf.sli (by rw [hlen]; omega)
  have hsl : Sli W v 1 (bysC ((s.take i).map lowB ++ s.drop i)) := hby
  refine rn ?_
  first | refine G.condD rfl (fun hc => ?_) (fun hc => ?_) | refine G.condN rfl (fun hc => ?_) (fun hc => ?_) | refine G.cond rfl (fun hc => ?_) (fun hc => ?_)
  · have hlt : i < s.length := by omega
    have hdr : s.drop i = s[i] :: s.drop (i + 1) := List.drop_eq_getElem_cons hlt
    have htk : s.take (i + 1) = s.take i ++ [s[i]] := List.take_succ_eq_append_getElem hlt
    have htl : ((s.take i).map lowB).length = i := by rw [List.length_map, List.length_take]; omega
    generalize s[i] = c at hdr htk
    rw [hdr] at hf hsl hlen
    have hget : (bysC ((s.take i).map lowB ++ c :: s.drop (i + 1)))[i]? = some [U c] := by
      unfold bysC
      rw [List.getElem?_map, List.getElem?_append_right (by omega), htl, Nat.sub_self]; rfl
    have hlow := lowB_nat c
    refine rn ?_
    refine sIa tb i ?_ (hj := fun _ => ⟨rfl, by rw [bysC_len, hlen]; exact hlt⟩)
    refine rn ?_
    have hce : (decide ((65 : Int) ≤ (c.toNat : Int)) && decide ((c.toNat : Int) ≤ 90)) = decide (65 ≤ c.toNat ∧ c.toNat ≤ 90) := by
      rw [Bool.eq_iff_iff]
      simp only [Bool.and_eq_true, decide_eq_true_eq]
      omega
    rw [hce]
    by_cases hup : 65 ≤ c.toNat ∧ c.toNat ≤ 90
    · rw [decide_eq_true hup]
      rw [if_pos hup] at hlow
      refine rn ?_
      refine GL.cons (Step.arith (k := .u8) (a := (c.toNat : Int)) (b := 97) (r := (c.toNat : Int) + 97) rfl (Op1.of rfl (by first | exact fun _ => rfl | exact fun h => h | exact fun h => bL h | exact fun h => bL (bL h) | exact fun h => bL (bL (bL h)))) (Op1.of rfl (by first | exact fun _ => rfl | exact fun h => h | exact fun h => bL h | exact fun h => bL (bL h) | exact fun h => bL (bL (bL h)))) ((Go.Vg.wrap_u8 _).trans (by omega)) rfl ?_)
      refine GL.cons (Step.arith (k := .u8) (a := (c.toNat : Int) + 97) (b := 65) (r := ((lowB c).toNat : Int)) rfl (Op1.of rfl (by first | exact fun _ => rfl | exact fun h => h | exact fun h => bL h | exact fun h => bL (bL h) | exact fun h => bL (bL (bL h)))) (Op1.of rfl (by first | exact fun _ => rfl | exact fun h => h | exact fun h => bL h | exact fun h => bL (bL h) | exact fun h => bL (bL (bL h)))) ((Go.Vg.wrap_u8 _).trans (by omega)) rfl ?_)
      refine sIa tb i ?_ (hj := fun _ => ⟨rfl, by rw [bysC_len, hlen]; exact hlt⟩)
      refine GL.cons (Step.storeF tb (u := lowB c) rfl (Op1.of rfl (fun _ => rfl)) (Op1.of rfl (fun _ => rfl)) rfl hf (by rw [hlen]; exact hlt) ?_)
      intro W2 hf2 hb2
      refine rn ?_
      refine sAd tb (r := ((i + 1 : Nat) : Int)) ?_
      refine rn ?_
      refine G.lp (x := i) (i + 1) (by repeat (first | exact Sub.nil _ | refine Sub.cons rfl ?_)) ⟨Below.trans hx hb2, ?_, by omega⟩ (by omega)
      rw [set_mid _ _ _ _ htl] at hf2
      rw [htk, List.map_append]
      exact hf2
    · rw [decide_eq_false hup]
      have hlc : lowB c = c := by unfold lowB; rw [if_neg hup]
      refine rn ?_
      refine sAd tb (r := ((i + 1 : Nat) : Int)) ?_
      refine rn ?_
      refine G.lp (x := i) (i + 1) (by repeat (first | exact Sub.nil _ | refine Sub.cons rfl ?_)) ⟨hx, ?_, by omega⟩ (by omega)
      rw [htk, List.map_append, List.map_cons, List.map_nil, hlc, List.append_assoc]
      exact hf
  · have hie : i = s.length := by omega
    subst hie
    rw [List.take_length, List.drop_length, List.append_nil] at hf hby
    refine rn ?_
    refine sByS tb hby ?_
    refine rn ?_
    refine G.ret1 rfl rfl rfl rfl ?_
    exact ⟨rfl, hx⟩
/-- what read tells -/
def ReadR (s : List UInt8) (r : Value) : Prop := ∃ (ds : List UInt8) (x : Int) (ok : Bool), r = .tuple ⟨[.agg ⟨[S ds, .int .i64 x]⟩, .bool ok]⟩ ∧ ((ok = true ∧ readP s = some (ds, x)) ∨ (ok = false ∧ readP s = none))
set_option maxHeartbeats 4000000 in
theorem read_ok (s : List UInt8) (w : World) (hs : s.length ≤ 400) : Ret Tryz.prog 68 ⟨[S s]⟩ w fun r w' => ReadR s r ∧ Ext w w' := by
  have hrn := runD_le s
  refine ret_of_G Tryz.func68 rfl Tryz.ntmps68 rfl ?_
  simp only [argEnv]
  refine rn ?_
  refine sAl tb (us := [S [], .int .i64 0]) (fun W1 hb2 hs1 hx1 => ?_)
  refine rn ?_
  refine sCall c79 (run_ok s W1 (by omega)) ?_
  rintro _ W2 ⟨rfl, hx2⟩
  have hb2 := hb2.to hx2
  have hx02 := hx1.trans hx2
  refine rn ?_
  refine GL.cons (Step.sliceSh tb (runD s) rfl (Op1.of rfl (by first | exact fun _ => rfl | exact fun h => h | exact fun h => bL h | exact fun h => bL (bL h) | exact fun h => bL (bL (bL h)))) (Op1.of rfl (by first | exact fun _ => rfl | exact fun h => h | exact fun h => bL h | exact fun h => bL (bL h) | exact fun h => bL (bL (bL h)))) rfl (fun _ => ⟨rfl, hrn⟩) rfl ?_)
  refine rn ?_
  refine sAl tb (us := [S [], .int .i64 0]) (fun W3 hb5 hs3 hx3 => ?_)
  refine rn ?_
  refine sSt tb (vs := [S (s.take (runD s)), .int .i64 0]) (fun W4 hb5 hw4 => ?_)
  have hx4 : Ext W2 W4 := Below.wr hx3 hw4 (Nat.le_refl _)
  have hx04 := hx02.trans hx4
  have hb2 := hb2.to hx4
  obtain ⟨b5, hb5e⟩ : ∃ b, b = W2.heap.size := ⟨_, rfl⟩
  have hlt2 : w.heap.size < b5 := by have := hx2.size; omega
  rw [← hb5e] at hb5 ⊢
  clear hb5e hx4 hw4 hs3 hx3 hx02 hx2 hx1 hs1
  refine rn ?_
  refine GL.cons (Step.sliceSl tb (runD s) rfl (Op1.of rfl (by first | exact fun _ => rfl | exact fun h => h | exact fun h => bL h | exact fun h => bL (bL h) | exact fun h => bL (bL (bL h)))) (Op1.of rfl (by first | exact fun _ => rfl | exact fun h => h | exact fun h => bL h | exact fun h => bL (bL h) | exact fun h => bL (bL (bL h)))) rfl (fun _ => ⟨rfl, hrn⟩) rfl ?_)
  refine rn ?_
  refine sCall c88 (hasP_ok (s.drop (runD s)) 46 _ (by rw [List.length_drop]; omega)) ?_
  rintro _ W5 ⟨rfl, hW5⟩
  subst hW5
  refine rn ?_
  have hsl := split_len s
  refine G.join (fun _ : Unit => [(0, none, S (splitP s).2.2), (2, none, ptr w.heap.size), (5, none, ptr b5)]) (fun _ W' => Ext w W' ∧ Bx W' w.heap.size [S [], .int .i64 0] ∧ Bx W' b5 [S (splitP s).1, .int .i64 (-((splitP s).2.1 : Nat))]) ?_ ?_
  rotate_left
  · unfold splitP
    by_cases hdot : (s.drop (runD s)).head? = some 46
    · rw [decide_eq_true hdot, if_pos hdot]
      have hpos : 0 < (s.drop (runD s)).length := by
        apply List.length_pos_iff.2
        intro h; rw [h] at hdot; simp at hdot
      rw [List.length_drop] at hpos
      have hr2 := runD_le ((s.drop (runD s)).drop 1)
      obtain ⟨u, hu⟩ : ∃ u, u = (s.drop (runD s)).drop 1 := ⟨_, rfl⟩
      have hul : u.length = s.length - runD s - 1 := by rw [hu, List.length_drop, List.length_drop]
      rw [← hu] at hr2 ⊢
      simp only
      refine rn ?_
      refine GL.cons (Step.sliceSl tb 1 rfl (Op1.of rfl (by first | exact fun _ => rfl | exact fun h => h | exact fun h => bL h | exact fun h => bL (bL h) | exact fun h => bL (bL (bL h)))) (Op1.of rfl (by first | exact fun _ => rfl | exact fun h => h | exact fun h => bL h | exact fun h => bL (bL h) | exact fun h => bL (bL (bL h)))) rfl (fun _ => ⟨rfl, by rw [List.length_drop]; omega⟩) rfl ?_)
      rw [← hu]
      refine rn ?_
      refine sCall c79 (run_ok u _ (by omega)) ?_
      rintro _ W6 ⟨rfl, hx6⟩
      have hb5 := hb5.to hx6
      have hb2 := hb2.to hx6
      have hx06 := hx04.trans hx6
      refine rn ?_
      refine G.regionZ 8 [(0, true), (1, true), (2, true), (3, true), (4, true), (5, true), (6, true), (7, true)] (fun w' => Bx w' b5 [S (s.take (runD s)), .int .i64 0]) (by kernel_rfl) (by kernel_rfl) rfl mixed (hb5.to (Ext.drew W6)) rfl rfl ?_
      refine rd ?_
      refine dLd tb (u := S (s.take (runD s))) ?_ (hc := fun w' hS _ => Bx.c0 hS (by exact rfl))
      refine rd ?_
      refine dAd tb (r := ((1 + runD u : Nat) : Int)) ?_ (hp := (wrap_i64 (n := 1 + ((runD u : Nat) : Int)) (by omega) (by omega)).trans (by omega))
      refine GM.read (fun w' hS => Step.sliceS tb 1 (1 + runD u) rfl (Op1.of rfl (by first | exact fun _ => rfl | exact fun h => h | exact fun h => bL h | exact fun h => bL (bL h) | exact fun h => bL (bL (bL h)))) (Op1.of rfl (by first | exact fun _ => rfl | exact fun h => h | exact fun h => bL h | exact fun h => bL (bL h) | exact fun h => bL (bL (bL h)))) (Op1.of rfl (by first | exact fun _ => rfl | exact fun h => h | exact fun h => bL h | exact fun h => bL (bL h) | exact fun h => bL (bL (bL h)))) rfl (fun _ => ⟨rfl, rfl, by omega, by rw [List.length_drop]; omega⟩) rfl ⟨rfl, rfl⟩) rfl rfl ?_
      rw [← hu, show 1 + runD u - 1 = runD u by omega]
      refine dCat tb ?_ (hk := fun _ => by rw [List.length_take, List.length_take]; omega)
      refine rd ?_
      refine GM.nil ?_
      have hb5' := hb5.to (Ext.drew W6)
      refine zSf tb (fun W7 hb7 hw7 => ?_)
      have hx7 : Ext w W7 := Below.wr (hx06.trans (Ext.drew W6)) hw7 (by omega)
      have hb2 := (hb2.to (Ext.drew W6)).wr hw7 (by omega)
      refine rn ?_
      refine sNeg ?_ (hr := wrap_i64 (by omega) (by omega))
      refine rn ?_
      refine sSf tb (fun W8 hb8 hw8 => ?_)
      have hx8 : Ext w W8 := Below.wr hx7 hw8 (by omega)
      have hb2 := hb2.wr hw8 (by omega)
      refine rn ?_
      refine sAd tb (r := ((1 + runD u : Nat) : Int)) ?_ (hp := (wrap_i64 (n := 1 + ((runD u : Nat) : Int)) (by omega) (by omega)).trans (by omega))
      refine GL.cons (Step.sliceSl tb (1 + runD u) rfl (Op1.of rfl (by first | exact fun _ => rfl | exact fun h => h | exact fun h => bL h | exact fun h => bL (bL h) | exact fun h => bL (bL (bL h)))) (Op1.of rfl (by first | exact fun _ => rfl | exact fun h => h | exact fun h => bL h | exact fun h => bL (bL h) | exact fun h => bL (bL (bL h)))) rfl (fun _ => ⟨rfl, by rw [List.length_drop]; omega⟩) rfl ?_)
      refine rn ?_
      have hb8 : Bx W8 b5 [S (s.take (runD s) ++ u.take (runD u)), .int .i64 (0 - ((runD u : Nat) : Int))] := hb8
      rw [Int.zero_sub] at hb8
      rw [← List.drop_drop, ← hu]
      exact G.met () (by repeat (first | exact Sub.nil _ | refine Sub.cons rfl ?_)) ⟨hx8, hb2, hb8⟩
    · rw [decide_eq_false hdot, if_neg hdot]
      refine rn ?_
      exact G.met () (by repeat (first | exact Sub.nil _ | refine Sub.cons rfl ?_)) ⟨hx04, hb2, hb5⟩
  obtain ⟨dg, kk, rest, hsp⟩ : ∃ dg kk rest, splitP s = (dg, kk, rest) := ⟨_, _, _, rfl⟩
  have hkk : kk ≤ s.length := by rw [hsp] at hsl; simp only at hsl; omega
  have hdl : dg.length ≤ s.length := by rw [hsp] at hsl; simp only at hsl; omega
  have hrl : rest.length ≤ s.length := by rw [hsp] at hsl; simp only at hsl; omega
  clear hb2 hb5 hx04 hsl hrn
  rintro _ W9 ⟨hx9, hb2, hb5⟩
  rw [hsp] at hb5 ⊢
  simp only at hb5 ⊢
  refine rn ?_
  have hrp : readP s = if dg = [] then none else if rest = [] then some (trimZ dg, -(kk : Int)) else match expP rest with
    | none => none
    | some (ng, l) => some (trimZ dg, -(kk : Int) + (if ng then -1 else 1) * ((min (numL l 0) 100000 : Nat) : Int)) := by
    unfold readP; rw [hsp]; rfl
  by_cases hd0 : dg = []
  · rw [if_pos hd0] at hrp
    subst hd0
    refine rn ?_
    refine sSt tb (vs := [S [], .int .i64 (-(kk : Int))]) (fun WR hbR hwR => ?_)
    refine rn ?_
    exact G.retAT tb rfl rfl hbR.cells ⟨⟨_, _, false, rfl, .inr ⟨rfl, hrp⟩⟩, Below.wr hx9 hwR (Nat.le_refl _)⟩ rfl rfl rfl rfl rfl rfl rfl
  rw [if_neg hd0] at hrp
  rw [decide_eq_false hd0]
  refine rn ?_
  refine sCall c111 (trimL_ok dg W9 (by omega)) ?_
  rintro _ _ ⟨rfl, rfl⟩
  refine rn ?_
  refine sSf tb (fun W10 hb10 hw10 => ?_)
  have hx10 : Ext w W10 := Below.wr hx9 hw10 (by omega)
  have hb2 := hb2.wr hw10 (by omega)
  have hb10 : Bx W10 b5 [S (trimZ dg), .int .i64 (-(kk : Int))] := hb10
  clear hb5 hw10 hx9
  refine rn ?_
  rcases rest with _ | ⟨c, r⟩
  · rw [if_pos rfl] at hrp
    refine rn ?_
    refine sSt tb (vs := [S (trimZ dg), .int .i64 (-(kk : Int))]) (fun WR hbR hwR => ?_)
    refine rn ?_
    exact G.retAT tb rfl rfl hbR.cells ⟨⟨_, _, true, rfl, .inl ⟨rfl, hrp⟩⟩, Below.wr hx10 hwR (Nat.le_refl _)⟩ rfl rfl rfl rfl rfl rfl rfl
  rw [if_neg (by simp)] at hrp
  obtain ⟨n, hn⟩ : ∃ n, n = (c :: r).length := ⟨_, rfl⟩
  have hn1 : n = r.length + 1 := by rw [hn]; rfl
  rw [decide_eq_false (p := (c :: r) = []) (by simp)]
  refine rn ?_
  refine sBs tb 0 ?_ (hj := fun _ => ⟨rfl, by rw [← hn]; omega⟩)
  rw [List.getD_cons_zero]
  refine rn ?_
  refine sBs tb 0 ?_ (hj := fun _ => ⟨rfl, by rw [← hn]; omega⟩)
  rw [List.getD_cons_zero]
  refine rn ?_
  have hbe : (!decide (((c.toNat : Nat) : Int) = 101) && !decide (((c.toNat : Nat) : Int) = 69)) = decide (¬ (c.toNat = 101 ∨ c.toNat = 69)) := by
    rw [Bool.eq_iff_iff]
    simp only [Bool.and_eq_true, Bool.not_eq_true', decide_eq_false_iff_not, decide_eq_true_eq]
    omega
  rw [hbe]
  by_cases hce : c.toNat = 101 ∨ c.toNat = 69
  rotate_left
  · have he : expP (c :: r) = none := by
      unfold expP
      rw [if_neg]
      rintro (h | h) <;> (injection h with h; subst h; exact hce (by decide))
    rw [he] at hrp
    rw [decide_eq_true hce]
    refine rn ?_
    refine sSt tb (vs := [S (trimZ dg), .int .i64 (-(kk : Int))]) (fun WR hbR hwR => ?_)
    refine rn ?_
    exact G.retAT tb rfl rfl hbR.cells ⟨⟨_, _, false, rfl, .inr ⟨rfl, hrp⟩⟩, Below.wr hx10 hwR (Nat.le_refl _)⟩ rfl rfl rfl rfl rfl rfl rfl
  have he : expP (c :: r) = if unsign r = [] ∨ runD (unsign r) ≠ (unsign r).length then none else some (minus r, unsign r) := by
    unfold expP
    rw [if_pos (hce.imp (fun h => by rw [UInt8.toNat_inj (b := 101) |>.1 h]; rfl) (fun h => by rw [UInt8.toNat_inj (b := 69) |>.1 h]; rfl))]
    rfl
  rw [he] at hrp
  clear he
  rw [decide_eq_false (p := ¬ (c.toNat = 101 ∨ c.toNat = 69)) (fun h => h hce)]
  refine rn ?_
  refine GL.cons (Step.sliceSl tb 1 rfl (Op1.of rfl (by first | exact fun _ => rfl | exact fun h => h | exact fun h => bL h | exact fun h => bL (bL h) | exact fun h => bL (bL (bL h)))) (Op1.of rfl (by first | exact fun _ => rfl | exact fun h => h | exact fun h => bL h | exact fun h => bL (bL h) | exact fun h => bL (bL (bL h)))) rfl (fun _ => ⟨rfl, by rw [← hn]; omega⟩) rfl ?_)
  rw [show (c :: r).drop 1 = r from rfl]
  have hr4 : r.length < 400 := by omega
  clear hbe hn1 hn hd0 hsp
  rcases r with _ | ⟨d, r⟩
  · rw [if_pos (.inl rfl)] at hrp
    refine rn ?_
    refine GL.cons (Step.off (v := U 0) rfl (of_decide_eq_true rfl) rfl ?_)
    refine rn ?_
    refine GL.cons (Step.off (v := U 0) rfl (of_decide_eq_true rfl) rfl ?_)
    refine rn ?_
    rw [decide_eq_true (p := ([] : List UInt8) = []) rfl]
    refine rn ?_
    refine GL.cons (Step.off (v := .int .i64 0) rfl (of_decide_eq_true rfl) rfl ?_)
    refine rn ?_
    refine sSt tb (vs := [S (trimZ dg), .int .i64 (-(kk : Int))]) (fun WR hbR hwR => ?_)
    refine rn ?_
    exact G.retAT tb rfl rfl hbR.cells ⟨⟨_, _, false, rfl, .inr ⟨rfl, hrp⟩⟩, Below.wr hx10 hwR (Nat.le_refl _)⟩ rfl rfl rfl rfl rfl rfl rfl
  obtain ⟨n, hn⟩ : ∃ n, n = (d :: r).length := ⟨_, rfl⟩
  have hn1 : n = r.length + 1 := by rw [hn]; rfl
  rw [← hn] at hr4
  refine rn ?_
  rw [decide_eq_false (p := (d :: r) = []) (by simp)]
  refine rn ?_
  refine sBs tb 0 ?_ (hj := fun _ => ⟨rfl, by rw [← hn]; omega⟩)
  rw [List.getD_cons_zero]
  refine rn ?_
  refine sBs tb 0 ?_ (hj := fun _ => ⟨rfl, by rw [← hn]; omega⟩)
  rw [List.getD_cons_zero]
  refine rn ?_
  have hbe : (!false && (decide (((d.toNat : Nat) : Int) = 43) || decide (((d.toNat : Nat) : Int) = 45))) = decide (d.toNat = 43 ∨ d.toNat = 45) := by
    rw [Bool.eq_iff_iff]
    simp only [Bool.not_false, Bool.true_and, Bool.or_eq_true, decide_eq_true_eq]
    omega
  rw [hbe]
  clear hbe
  have hsg : signed (d :: r) = decide (d.toNat = 43 ∨ d.toNat = 45) := by
    unfold signed
    rw [Bool.eq_iff_iff]
    simp only [List.head?_cons, Bool.or_eq_true, beq_iff_eq, decide_eq_true_eq, Option.some.injEq]
    rw [← UInt8.toNat_inj, ← UInt8.toNat_inj]
    exact Iff.rfl
  have hmn : minus (d :: r) = decide (d.toNat = 45) := by
    unfold minus
    rw [Bool.eq_iff_iff]
    simp only [List.head?_cons, beq_iff_eq, decide_eq_true_eq, Option.some.injEq]
    rw [← UInt8.toNat_inj]
    exact Iff.rfl
  refine G.join (fun _ : Unit => [(0, none, S (unsign (d :: r))), (2, none, ptr w.heap.size), (5, none, ptr b5), (6, none, .int .i64 (if minus (d :: r) then -1 else 1))]) (fun _ W' => W' = W10) ?_ ?_
  rotate_left
  · unfold unsign
    rw [hsg]
    by_cases hsi : d.toNat = 43 ∨ d.toNat = 45
    · rw [decide_eq_true hsi, if_pos rfl]
      refine rn ?_
      refine sBs tb 0 ?_ (hj := fun _ => ⟨rfl, by rw [← hn]; omega⟩)
      rw [List.getD_cons_zero]
      refine rn ?_
      refine G.join (fun _ : Unit => [(0, none, S (d :: r)), (2, none, ptr w.heap.size), (5, none, ptr b5), (6, none, .int .i64 (if minus (d :: r) then -1 else 1))]) (fun _ W' => W' = W10) ?_ ?_
      rotate_left
      · rw [hmn]
        by_cases h45 : d.toNat = 45
        · rw [decide_eq_true (p := ((d.toNat : Nat) : Int) = 45) (by omega), decide_eq_true h45, if_pos rfl]
          refine rn ?_
          exact G.met () (by repeat (first | exact Sub.nil _ | refine Sub.cons rfl ?_)) rfl
        · rw [decide_eq_false (p := ((d.toNat : Nat) : Int) = 45) (by omega), decide_eq_false h45, if_neg (by simp)]
          refine rn ?_
          exact G.met () (by repeat (first | exact Sub.nil _ | refine Sub.cons rfl ?_)) rfl
      rintro _ _ rfl
      generalize (if minus (d :: r) = true then (-1 : Int) else 1) = by_
      refine rn ?_
      refine GL.cons (Step.sliceSl tb 1 rfl (Op1.of rfl (by first | exact fun _ => rfl | exact fun h => h | exact fun h => bL h | exact fun h => bL (bL h) | exact fun h => bL (bL (bL h)))) (Op1.of rfl (by first | exact fun _ => rfl | exact fun h => h | exact fun h => bL h | exact fun h => bL (bL h) | exact fun h => bL (bL (bL h)))) rfl (fun _ => ⟨rfl, by rw [← hn]; omega⟩) rfl ?_)
      refine rn ?_
      exact G.met () (by repeat (first | exact Sub.nil _ | refine Sub.cons rfl ?_)) rfl
    · rw [decide_eq_false hsi, if_neg (by simp), hmn, decide_eq_false (p := d.toNat = 45) (by omega), if_neg (by simp)]
      refine rn ?_
      exact G.met () (by repeat (first | exact Sub.nil _ | refine Sub.cons rfl ?_)) rfl
  rintro _ W10 rfl
  have hul : (unsign (d :: r)).length ≤ n := by
    unfold unsign
    split
    · rw [List.length_drop, ← hn]; omega
    · rw [hn]; exact Nat.le_refl _
  have hby : (if minus (d :: r) = true then (-1 : Int) else 1) = -1 ∨ (if minus (d :: r) = true then (-1 : Int) else 1) = 1 := by split <;> simp
  clear hmn hsg
  generalize unsign (d :: r) = u at hrp hul ⊢
  obtain ⟨neg, hng⟩ : ∃ b, b = minus (d :: r) := ⟨_, rfl⟩
  rw [← hng] at hrp hby ⊢
  obtain ⟨by_, hbyy⟩ : ∃ x, x = (if neg = true then (-1 : Int) else 1) := ⟨_, rfl⟩
  rw [← hbyy] at hby ⊢
  by_cases hu0 : u = []
  · rw [if_pos (.inl hu0)] at hrp
    subst hu0
    refine rn ?_
    rw [decide_eq_true (p := ([] : List UInt8) = []) rfl]
    refine GL.cons (Step.off (v := .int .i64 0) rfl (of_decide_eq_true rfl) rfl ?_)
    refine rn ?_
    refine sSt tb (vs := [S (trimZ dg), .int .i64 (-(kk : Int))]) (fun WR hbR hwR => ?_)
    refine rn ?_
    exact G.retAT tb rfl rfl hbR.cells ⟨⟨_, _, false, rfl, .inr ⟨rfl, hrp⟩⟩, Below.wr hx10 hwR (Nat.le_refl _)⟩ rfl rfl rfl rfl rfl rfl rfl
  refine rn ?_
  rw [decide_eq_false hu0]
  refine GL.cons (Step.callX rfl rfl (by repeat (first | exact OpL.nil | refine OpL.cons (Op1.of rfl (by first | exact fun _ => rfl | exact fun h => h | exact fun h => bL h | exact fun h => bL (bL h) | exact fun h => bL (bL (bL h)))) ?_)) c79 rfl (fun hc => run_ok u W10 (by omega)) ?_)
  intro W11 hx11
  refine rn ?_
  by_cases hru : runD u = u.length
  rotate_left
  · rw [if_pos (.inr hru)] at hrp
    have hb2 := hb2.to hx11
    have hb10 := hb10.to hx11
    rw [decide_eq_false (p := ((runD u : Nat) : Int) = ((u.length : Nat) : Int)) (by omega)]
    refine rn ?_
    refine sSt tb (vs := [S (trimZ dg), .int .i64 (-(kk : Int))]) (fun WR hbR hwR => ?_)
    refine rn ?_
    exact G.retAT tb rfl rfl hbR.cells ⟨⟨_, _, false, rfl, .inr ⟨rfl, hrp⟩⟩, Below.wr (hx10.trans hx11) hwR (Nat.le_refl _)⟩ rfl rfl rfl rfl rfl rfl rfl
  rw [if_neg (by rintro (h | h); exact hu0 h; exact h hru)] at hrp
  rw [decide_eq_true (p := ((runD u : Nat) : Int) = ((u.length : Nat) : Int)) (by omega)]
  have hdig := runD_all hru
  have hb2 := hb2.to hx11
  have hb10 := hb10.to hx11
  have hx011 := hx10.trans hx11
  clear hx11 hx10
  refine rn ?_
  refine (G.loop (fun i : Nat => [(0, none, S u), (2, none, ptr w.heap.size), (5, none, ptr b5), (6, none, .int .i64 by_), (7, none, .int .i64 ((cutE 100000 u i : Nat) : Int)), (88, none, .int .i64 u.length), (89, none, .int .i64 i)]) (fun i W => W = W11 ∧ i ≤ u.length) (fun i => u.length - i) 0 (by repeat (first | exact Sub.nil _ | refine Sub.cons rfl ?_)) ⟨rfl, Nat.zero_le _⟩ ?_)
  rintro i W11 ⟨rfl, hi⟩
  have hcut : cutE 100000 u i ≤ 100000 := by
    cases i with
    | zero => exact Nat.zero_le _
    | succ i => exact Nat.min_le_right _ _
  have hcs : cutE 100000 u (i + 1) = min (10 * cutE 100000 u i + ((u.getD i 0).toNat - 48)) 100000 := rfl
  have hce := cutE_eq 100000 u i hi
  refine rn ?_
  first | refine G.condD rfl (fun hc => ?_) (fun hc => ?_) | refine G.condN rfl (fun hc => ?_) (fun hc => ?_) | refine G.cond rfl (fun hc => ?_) (fun hc => ?_)
  · have hlt : i < u.length := by omega
    have hc : 48 ≤ (u.getD i 0).toNat ∧ (u.getD i 0).toNat ≤ 57 := hdig (u.getD i 0) (by rw [List.getD_eq_getElem?_getD, List.getElem?_eq_getElem hlt]; exact List.getElem_mem hlt)
    obtain ⟨c, hgc⟩ : ∃ c, u.getD i 0 = c := ⟨_, rfl⟩
    rw [hgc] at hc hcs
    refine rn ?_
    refine sAd tb (r := ((10 * cutE 100000 u i : Nat) : Int)) ?_ (hp := (wrap_i64 (n := 10 * ((cutE 100000 u i : Nat) : Int)) (by omega) (by omega)).trans (by omega))
    refine rn ?_
    refine sBs tb i ?_ (hj := fun _ => ⟨rfl, hlt⟩)
    refine rn ?_
    rw [hgc]
    refine GL.cons (Step.arith (k := .u8) (a := (c.toNat : Int)) (b := 48) (r := ((c.toNat - 48 : Nat) : Int)) rfl (Op1.of rfl (by first | exact fun _ => rfl | exact fun h => h | exact fun h => bL h | exact fun h => bL (bL h) | exact fun h => bL (bL (bL h)))) (Op1.of rfl (by first | exact fun _ => rfl | exact fun h => h | exact fun h => bL h | exact fun h => bL (bL h) | exact fun h => bL (bL (bL h)))) ((Go.Vg.wrap_u8 _).trans (by omega)) rfl ?_)
    refine rn ?_
    refine sCv tb (r := ((c.toNat - 48 : Nat) : Int)) ?_
    refine sAd tb (r := ((10 * cutE 100000 u i + (c.toNat - 48) : Nat) : Int)) ?_ (hp := (wrap_i64 (n := ((10 * cutE 100000 u i : Nat) : Int) + ((c.toNat - 48 : Nat) : Int)) (by omega) (by omega)).trans (by omega))
    refine rn ?_
    refine GL.cons (Step.min2 rfl (Op1.of rfl (by first | exact fun _ => rfl | exact fun h => h | exact fun h => bL h | exact fun h => bL (bL h) | exact fun h => bL (bL (bL h)))) (Op1.of rfl (by first | exact fun _ => rfl | exact fun h => h | exact fun h => bL h | exact fun h => bL (bL h) | exact fun h => bL (bL (bL h)))) rfl ?_)
    rw [show (if (100000 : Int) < ((10 * cutE 100000 u i + (c.toNat - 48) : Nat) : Int) then (100000 : Int) else ((10 * cutE 100000 u i + (c.toNat - 48) : Nat) : Int)) = ((cutE 100000 u (i + 1) : Nat) : Int) by rw [hcs]; split <;> omega]
    refine rn ?_
    refine sAd tb (r := ((i + 1 : Nat) : Int)) ?_
    refine rn ?_
    exact G.lp (x := i) (i + 1) (by repeat (first | exact Sub.nil _ | refine Sub.cons rfl ?_)) ⟨rfl, by omega⟩ (by omega)
  · have hie : i = u.length := by omega
    rw [hie, List.take_length] at hce
    have hbe : -100000 ≤ by_ * ((cutE 100000 u u.length : Nat) : Int) ∧ by_ * ((cutE 100000 u u.length : Nat) : Int) ≤ 100000 := by
      rw [hie] at hcut
      rcases hby with h | h <;> rw [h] <;> omega
    have hrp : readP s = some (trimZ dg, -(kk : Int) + (if neg = true then -1 else 1) * ((min (numL u 0) 100000 : Nat) : Int)) := hrp
    rw [← hbyy, ← hce] at hrp
    rw [hie]
    obtain ⟨p, hp⟩ : ∃ p, p = by_ * ((cutE 100000 u u.length : Nat) : Int) := ⟨_, rfl⟩
    rw [← hp] at hrp hbe
    refine rn ?_
    refine sAd tb (r := p) ?_ (hp := (wrap_i64 (n := by_ * ((cutE 100000 u u.length : Nat) : Int)) (by omega) (by omega)).trans hp.symm)
    refine rn ?_
    refine sAd tb (r := -(kk : Int) + p) ?_ (hp := wrap_i64 (by omega) (by omega))
    refine rn ?_
    refine sSf tb (fun W12 hb12 hw12 => ?_)
    have hx12 := Below.wr hx011 hw12 (by omega)
    have hb2 := hb2.wr hw12 (by omega)
    have hb12 : Bx W12 b5 [S (trimZ dg), .int .i64 (-(kk : Int) + p)] := hb12
    refine rn ?_
    refine sSt tb (vs := [S (trimZ dg), .int .i64 (-(kk : Int) + p)]) (fun WR hbR hwR => ?_)
    refine rn ?_
    exact G.retAT tb rfl rfl hbR.cells ⟨⟨_, _, true, rfl, .inl ⟨rfl, hrp⟩⟩, Below.wr hx12 hwR (Nat.le_refl _)⟩ rfl rfl rfl rfl rfl rfl rfl
end Go.Proofs.YtlaingmhdgpkdaaGreatDoor.Num
end
section
open Go Go.Vg Go.RowKit Go.Proofs Go.Proofs.YtlaingmhdgpkdaaGreatDoor
namespace Go.Proofs.YtlaingmhdgpkdaaGreatDoor.Num
open Go.Nm

theorem near_fin (e2 : Int) (m2 : Nat) : (if 971 < e2 then infB else if m2 < 2 ^ 52 then m2 else (e2 + 1075).toNat * 2 ^ 52 + m2 % 2 ^ 52) < 2 ^ 63 := by
  have hi : infB < 2 ^ 63 := by decide
  split
  · exact hi
  · split <;> omega
theorem near_bd (q L : Nat) (e : Int) (more : Bool) : near q L e more < 2 ^ 63 := by
  unfold near
  simp only
  by_cases h : 63 < max ((L : Int) - 53) (-1074 - e)
  · rw [if_pos h]; exact Nat.two_pow_pos 63
  · rw [if_neg h]; exact near_fin _ _
theorem progBits_bd (ds : List UInt8) (x : Int) : progBits ds x < 2 ^ 63 := by
  unfold progBits
  split
  · exact Nat.two_pow_pos 63
  · split
    · decide
    · exact near_bd _ _ _ _
theorem or_sym (a b : Int) : bits .or .u64 a b = bits .or .u64 b a := by
  show IntKind.u64.wrap ((BitVec.ofInt 64 a ||| BitVec.ofInt 64 b).toNat : Int) = IntKind.u64.wrap ((BitVec.ofInt 64 b ||| BitVec.ofInt 64 a).toNat : Int)
  rw [BitVec.or_comm]
theorem or_sgn {b : Nat} (hb : b < 2 ^ 63) (n : Bool) : bits .or .u64 (b : Int) ((sgn n : Nat) : Int) = ((b + sgn n : Nat) : Int) := by
  rw [or_sym]
  cases n
  · have := or_low64 0 b 63 hb (by omega)
    rw [Nat.mul_zero, Nat.zero_add] at this
    exact this
  · have := or_low64 1 b 63 hb (by omega)
    rw [Nat.mul_one, Nat.add_comm] at this
    exact this
/-- what read finds -/
theorem read_bd {s ds : List UInt8} {x : Int} (h : readP s = some (ds, x)) : ∃ l, allD l ∧ ds = trimZ l ∧ l.length ≤ s.length ∧ -((s.length : Nat) : Int) - 100000 ≤ x ∧ x ≤ 100000 := by
  unfold readP at h
  have hsl := split_len s
  have hsd := split_dig s
  split at h
  · simp at h
  · split at h
    · injection h with h
      injection h with h1 h2
      exact ⟨_, hsd, h1.symm, by omega, by omega, by omega⟩
    · revert h
      generalize expP (splitP s).2.2 = r
      rcases r with _ | ⟨ng, l⟩
      · intro h; simp at h
      · intro h
        injection h with h
        injection h with h1 h2
        have hm : min (numL l 0) 100000 ≤ 100000 := Nat.min_le_right _ _
        generalize min (numL l 0) 100000 = m at hm h2
        refine ⟨_, hsd, h1.symm, by omega, ?_, ?_⟩ <;> (cases ng <;> simp at h2 <;> omega)
/-- what Parse tells -/
def ParseR (s : List UInt8) (r : Value) : Prop := match parseP s with
  | none => r = .tuple ⟨[Fl 0, .int .i64 8]⟩
  | some b => r = .tuple ⟨[Fl b, .int .i64 0]⟩
set_option maxHeartbeats 4000000 in
theorem parse_ok (s : List UInt8) (w : World) (hs : s.length ≤ 9223372036854775807) : Ret Tryz.prog 41 ⟨[S s]⟩ w fun r w' => ParseR s r ∧ Ext w w' := by
  unfold ParseR
  refine ret_of_G Tryz.func41 rfl Tryz.ntmps41 rfl ?_
  simp only [argEnv]
  refine rn ?_
  by_cases h400 : 400 < s.length
  · rw [decide_eq_true (p := (400 : Int) < ((s.length : Nat) : Int)) (by omega)]
    have hP : parseP s = none := by unfold parseP; rw [if_pos h400]
    rw [hP]
    refine rn ?_
    refine G.ret2 rfl rfl rfl rfl rfl ?_
    exact ⟨rfl, Ext.refl _⟩
  rw [decide_eq_false (p := (400 : Int) < ((s.length : Nat) : Int)) (by omega)]
  have hP : parseP s = if (unsign s).map lowB = [110, 97, 110] then some nanB
      else if (unsign s).map lowB = [105, 110, 102] ∨ (unsign s).map lowB = [105, 110, 102, 105, 110, 105, 116, 121] then some (infB + sgn (minus s))
      else match readP (unsign s) with
        | none => none
        | some (ds, x) => some (progBits ds x + sgn (minus s)) := by unfold parseP; rw [if_neg h400]; rfl
  have hpos : (!decide (s = [])) = true → 0 < s.length := fun h => by
    apply List.length_pos_iff.2
    intro h0
    rw [decide_eq_true h0] at h
    simp at h
  have hsg : (!decide (s = []) && (decide (((s.getD 0 0).toNat : Int) = 43) || decide (((s.getD 0 0).toNat : Int) = 45))) = signed s := by
    cases s with
    | nil => rfl
    | cons d l =>
      unfold signed
      rw [Bool.eq_iff_iff, decide_eq_false (p := d :: l = []) (by simp), List.getD_cons_zero]
      simp only [List.head?_cons, Bool.not_false, Bool.true_and, Bool.or_eq_true, beq_iff_eq, decide_eq_true_eq, Option.some.injEq]
      rw [← UInt8.toNat_inj, ← UInt8.toNat_inj]
      show (_ ∨ _) ↔ (d.toNat = 43 ∨ d.toNat = 45)
      omega
  have hmn : signed s = true → decide (((s.getD 0 0).toNat : Int) = 45) = minus s := by
    cases s with
    | nil => intro h; cases h
    | cons d l =>
      intro _
      unfold minus
      rw [Bool.eq_iff_iff, List.getD_cons_zero]
      simp only [List.head?_cons, beq_iff_eq, decide_eq_true_eq, Option.some.injEq]
      rw [← UInt8.toNat_inj]
      show _ ↔ d.toNat = 45
      omega
  have hspos : signed s = true → 0 < s.length := by
    cases s with
    | nil => intro h; cases h
    | cons d l => intro _; simp
  have hmn0 : signed s = false → minus s = false := by
    unfold signed minus
    simp only [Bool.or_eq_false_iff]
    exact fun h => h.2
  refine rn ?_
  refine sBs tb 0 ?_ (hj := by intro h; exact ⟨rfl, hpos h⟩)
  refine rn ?_
  refine sBs tb 0 ?_ (hj := by intro h; exact ⟨rfl, hpos (by revert h; cases decide (s = []) <;> simp [cv])⟩)
  refine rn ?_
  rw [hsg]
  refine G.join (fun _ : Unit => [(0, none, S (unsign s)), (4, none, .int .u64 ((sgn (minus s) : Nat) : Int))]) (fun _ W' => W' = w) ?_ ?_
  rotate_left
  · unfold unsign
    cases hs1 : signed s
    · rw [hmn0 hs1, if_neg (by simp)]
      refine rn ?_
      exact G.met () (by repeat (first | exact Sub.nil _ | refine Sub.cons rfl ?_)) rfl
    · rw [if_pos rfl]
      have hpos := hspos hs1
      refine rn ?_
      refine sBs tb 0 ?_ (hj := fun _ => ⟨rfl, hpos⟩)
      refine rn ?_
      rw [hmn hs1]
      refine G.join (fun _ : Unit => [(0, none, S s), (4, none, .int .u64 ((sgn (minus s) : Nat) : Int))]) (fun _ W' => W' = w) ?_ ?_
      rotate_left
      · cases minus s
        · refine rn ?_
          exact G.met () (by repeat (first | exact Sub.nil _ | refine Sub.cons rfl ?_)) rfl
        · refine rn ?_
          exact G.met () (by repeat (first | exact Sub.nil _ | refine Sub.cons rfl ?_)) rfl
      rintro _ w rfl
      refine rn ?_
      refine GL.cons (Step.sliceSl tb 1 rfl (Op1.of rfl (by first | exact fun _ => rfl | exact fun h => h | exact fun h => bL h | exact fun h => bL (bL h) | exact fun h => bL (bL (bL h)))) (Op1.of rfl (by first | exact fun _ => rfl | exact fun h => h | exact fun h => bL h | exact fun h => bL (bL h) | exact fun h => bL (bL (bL h)))) rfl (fun _ => ⟨rfl, hpos⟩) rfl ?_)
      refine rn ?_
      exact G.met () (by repeat (first | exact Sub.nil _ | refine Sub.cons rfl ?_)) rfl
  rintro _ w rfl
  have hul : (unsign s).length ≤ s.length := by
    unfold unsign
    split
    · rw [List.length_drop]; omega
    · exact Nat.le_refl _
  clear hsg hmn hspos hmn0 hpos
  generalize unsign s = u at hP hul ⊢
  generalize minus s = neg at hP ⊢
  refine rn ?_
  refine sCall c66 (small_ok u w (by omega)) ?_
  rintro _ W1 ⟨rfl, hx1⟩
  refine rn ?_
  by_cases h1 : u.map lowB = [110, 97, 110]
  · rw [decide_eq_true h1]
    rw [if_pos h1] at hP
    rw [hP]
    refine rn ?_
    refine GL.cons (Step.ext rfl rfl (by repeat (first | exact OpL.nil | refine OpL.cons (Op1.of rfl (by first | exact fun _ => rfl | exact fun h => h | exact fun h => bL h | exact fun h => bL (bL h) | exact fun h => bL (bL (bL h)))) ?_)) (run_ofbits Tryz.func67 (by kernel_rfl) (by kernel_rfl) (by kernel_rfl) (by kernel_rfl) nanB _) rfl ?_)
    refine rn ?_
    refine G.ret2 rfl rfl rfl rfl rfl ?_
    exact ⟨rfl, hx1⟩
  rw [if_neg h1] at hP
  rw [decide_eq_false h1]
  refine rn ?_
  refine G.join (fun _ : Unit => [(0, none, S u), (4, none, .int .u64 ((sgn neg : Nat) : Int)), (32, none, .bool (decide (u.map lowB = [105, 110, 102] ∨ u.map lowB = [105, 110, 102, 105, 110, 105, 116, 121])))]) (fun _ W' => W' = W1) ?_ ?_
  rotate_left
  · by_cases h2 : u.map lowB = [105, 110, 102]
    · rw [decide_eq_true h2, decide_eq_true (.inl h2)]
      refine rn ?_
      exact G.met () (by repeat (first | exact Sub.nil _ | refine Sub.cons rfl ?_)) rfl
    · rw [decide_eq_false h2, show decide (u.map lowB = [105, 110, 102] ∨ u.map lowB = [105, 110, 102, 105, 110, 105, 116, 121]) = decide (u.map lowB = [105, 110, 102, 105, 110, 105, 116, 121]) from decide_eq_decide.2 (or_iff_right h2)]
      refine rn ?_
      exact G.met () (by repeat (first | exact Sub.nil _ | refine Sub.cons rfl ?_)) rfl
  rintro _ W1 rfl
  by_cases h2 : u.map lowB = [105, 110, 102] ∨ u.map lowB = [105, 110, 102, 105, 110, 105, 116, 121]
  · rw [decide_eq_true h2]
    rw [if_pos h2] at hP
    rw [hP]
    refine rn ?_
    rw [show (9218868437227405312 : Int) = ((infB : Nat) : Int) by decide, or_sgn (by decide) neg]
    refine GL.cons (Step.ext rfl rfl (by repeat (first | exact OpL.nil | refine OpL.cons (Op1.of rfl (by first | exact fun _ => rfl | exact fun h => h | exact fun h => bL h | exact fun h => bL (bL h) | exact fun h => bL (bL (bL h)))) ?_)) (run_ofbits Tryz.func67 (by kernel_rfl) (by kernel_rfl) (by kernel_rfl) (by kernel_rfl) _ _) rfl ?_)
    refine rn ?_
    refine G.ret2 rfl rfl rfl rfl rfl ?_
    exact ⟨rfl, hx1⟩
  rw [decide_eq_false h2]
  rw [if_neg h2] at hP
  refine rn ?_
  refine sCall c68 (read_ok u W1 (by omega)) ?_
  rintro _ W2 ⟨⟨ds, x, ok, rfl, hr⟩, hx2⟩
  have hx02 := hx1.trans hx2
  refine rn ?_
  refine sAl tb (us := [S [], .int .i64 0]) (fun W3 hb5 hs3 hx3 => ?_)
  refine sSt tb (vs := [S ds, .int .i64 x]) (fun W4 hb5 hw4 => ?_)
  have hx4 : Ext W2 W4 := Below.wr hx3 hw4 (Nat.le_refl _)
  have hx04 := hx02.trans hx4
  refine rn ?_
  rcases hr with ⟨rfl, hr⟩ | ⟨rfl, hr⟩
  rotate_left
  · rw [hr] at hP
    have hP : parseP s = none := hP
    rw [hP]
    refine rn ?_
    refine G.ret2 rfl rfl rfl rfl rfl ?_
    exact ⟨rfl, hx04⟩
  rw [hr] at hP
  have hP : parseP s = some (progBits ds x + sgn neg) := hP
  rw [hP]
  obtain ⟨l, hd, rfl, hl, hxl, hxu⟩ := read_bd hr
  refine rn ?_
  refine sCall c69 (bits_ok l x W4 hd (by omega) (by omega) (by omega)) ?_
  rintro _ W5 ⟨rfl, hx5⟩
  refine rn ?_
  rw [or_sgn (progBits_bd _ _) neg]
  refine GL.cons (Step.ext rfl rfl (by repeat (first | exact OpL.nil | refine OpL.cons (Op1.of rfl (by first | exact fun _ => rfl | exact fun h => h | exact fun h => bL h | exact fun h => bL (bL h) | exact fun h => bL (bL (bL h)))) ?_)) (run_ofbits Tryz.func67 (by kernel_rfl) (by kernel_rfl) (by kernel_rfl) (by kernel_rfl) _ _) rfl ?_)
  refine rn ?_
  refine G.ret2 rfl rfl rfl rfl rfl ?_
  exact ⟨rfl, hx04.trans hx5⟩
end Go.Proofs.YtlaingmhdgpkdaaGreatDoor.Num
end
section
open Go Go.Vg Go.RowKit Go.Proofs Go.Proofs.YtlaingmhdgpkdaaGreatDoor
namespace Go.Proofs.YtlaingmhdgpkdaaGreatDoor.Num
open Go.Nm

def i64C (x : Nat) : List Value := [.int .i64 x]
theorem i64_one (l : List Nat) : ∀ y ∈ l.map i64C, ∀ c ∈ y, c.oneCell' = true := by
  intro y hy c hc
  obtain ⟨n, _, rfl⟩ := List.mem_map.1 hy
  simp only [i64C, List.mem_cons, List.not_mem_nil, or_false] at hc
  subst hc; rfl
/-- a row of the reference's digits -/
structure Rt (w : World) (v : Value) (l : List Nat) : Prop where
  sl : Sli w v 1 (l.map i64C)
  nr : Nrm 10000 l
theorem Rt.to {w w' : World} {v : Value} {l : List Nat} (h : Rt w v l) (hx : Ext w w') : Rt w' v l := ⟨h.sl.to hx, h.nr⟩
theorem Rt.nil (w : World) : Rt w (.slice none 0 0) [] := ⟨Sli.nil _ _, Nrm.nil _⟩
theorem carry_bd {m : Nat} (hm : m ≤ 10000) : ∀ (l : List Nat) (c : Nat), (∀ x ∈ l, x < 10000) → c ≤ 2 ^ 60 → (mulR 10000 m l c).2 ≤ 2 ^ 60
  | [], c, _, hc => hc
  | x :: l, c, h, hc => by
    rw [mulR]
    refine carry_bd hm l _ (fun y hy => h y (List.mem_cons_of_mem _ hy)) ?_
    have h1 := h x (List.mem_cons_self ..)
    have : x * m ≤ 10000 * 10000 := Nat.mul_le_mul (by omega) hm
    omega
theorem dig4_step {f c : Nat} (h : c < 10000 ^ f) (h0 : 0 < c) : ∃ g, f = g + 1 ∧ dig4 f c = c % 10000 :: dig4 g (c / 10000) ∧ c / 10000 < 10000 ^ g := by
  cases f with
  | zero => simp at h; omega
  | succ g =>
    refine ⟨g, rfl, ?_, ?_⟩
    · rw [dig4, if_neg (by omega)]
    · apply Nat.div_lt_of_lt_mul
      rw [Nat.pow_succ, Nat.mul_comm] at h
      exact h
theorem dig4_zero (f : Nat) : dig4 f 0 = [] := by
  cases f with
  | zero => rfl
  | succ f => rw [dig4, if_pos rfl]
set_option maxHeartbeats 2000000 in
theorem timesR_ok (v : Value) (l : List Nat) (k c : Nat) (w : World) (hv : Rt w v l) (hl : l.length ≤ 1000000) (hk : k ≤ 10000) (hk0 : 0 < k) (hc : c ≤ 2 ^ 60) :
    Ret Tryz.prog 75 ⟨[v, .int .i64 k, .int .i64 c]⟩ w fun r w' => (Owns w' w.heap.size r 3 1 ((timesR k c l).map i64C) ∧ Nrm 10000 (timesR k c l)) ∧ Ext w w' := by
  have hvs := hv.sl
  have hll : (l.map i64C).length = l.length := List.length_map ..
  have hcb := fun i => carry_bd hk (l.take i) c (fun x hx => hv.nr.lt x (List.mem_of_mem_take hx)) hc
  refine ret_of_G Tryz.func75 rfl Tryz.ntmps75 rfl ?_
  simp only [argEnv]
  refine rn ?_
  refine (G.loop (fun x : Nat × Value => [(0, none, v), (1, none, .int .i64 k), (7, none, x.2), (8, none, .int .i64 ((mulR 10000 k (l.take x.1) c).2 : Nat)), (9, none, .int .i64 x.1)])
    (fun x W => Ext w W ∧ Owns W w.heap.size x.2 3 1 ((mulR 10000 k (l.take x.1) c).1.map i64C) ∧ x.1 ≤ l.length) (fun x => l.length - x.1) (0, .slice none 0 0) (by repeat (first | exact Sub.nil _ | refine Sub.cons rfl ?_)) ⟨Ext.refl _, Owns.nil _ _ _ _, Nat.zero_le _⟩ ?_)
  rintro ⟨i, ov⟩ W ⟨hx, ho, hi⟩
  simp only at ho hi
  have hvW := hvs.to hx
  have hci := hcb i
  have hrl := mulR_len 10000 k (l.take i) c
  rw [List.length_take, Nat.min_eq_left hi] at hrl
  show G _ _ [(0, none, v), (1, none, .int .i64 k), (7, none, ov), (8, none, .int .i64 ((mulR 10000 k (l.take i) c).2 : Nat)), (9, none, .int .i64 i)] _
  refine rn ?_
  rw [hll]
  refine rn ?_
  first | refine G.condD rfl (fun hc => ?_) (fun hc => ?_) | refine G.condN rfl (fun hc => ?_) (fun hc => ?_) | refine G.cond rfl (fun hc => ?_) (fun hc => ?_)
  · have hlt : i < l.length := by omega
    have hget : (l.map i64C)[i]? = some (i64C l[i]) := by rw [List.getElem?_map, List.getElem?_eq_getElem hlt]; rfl
    have hxl := hv.nr.lt l[i] (List.getElem_mem hlt)
    have hst := mulR_take 10000 k l c i hlt
    generalize l[i] = x at hget hxl hst
    generalize hR : (mulR 10000 k (l.take i) c) = R at *
    obtain ⟨row, cy⟩ := R
    simp only at hci hrl hst ho ⊢
    have hxm : x * k ≤ 10000 * 10000 := Nat.mul_le_mul (by omega) hk
    refine rn ?_
    refine sIa tb i ?_ (hj := fun _ => ⟨rfl, by rw [hll]; exact hlt⟩)
    refine rn ?_
    refine sAd tb (r := ((x * k : Nat) : Int)) ?_ (hp := (wrap_i64 (n := ((x : Nat) : Int) * ((k : Nat) : Int)) (by rw [← Int.natCast_mul]; omega) (by rw [← Int.natCast_mul]; omega)).trans (Int.natCast_mul ..).symm)
    refine rn ?_
    refine sAd tb (r := ((x * k + cy : Nat) : Int)) ?_ (hp := (wrap_i64 (n := ((x * k : Nat) : Int) + ((cy : Nat) : Int)) (by omega) (by omega)).trans (by omega))
    refine rn ?_
    have hyb : x * k + cy ≤ 2 ^ 61 := by omega
    generalize x * k + cy = y at *
    have hrem : ((y : Nat) : Int).tmod 10000 = ((y % 10000 : Nat) : Int) := (Int.tmod_eq_emod_of_nonneg (by omega)).trans (by omega)
    refine sRem hrem ?_
    refine sBs' tb ([y % 10000].map i64C) (fun us W2 ho2 hs2 hx2 => ?_) (hkl := by simp [i64C])
    have hx2s := hx2.size
    have hxs := hx.size
    refine sApp tb (ho.to hx2) ho2.sli (fun u3 W3 ho3 hg3 => ?_) (h1 := i64_one [_]) (hb := by simp only [List.length_map, List.length_cons, List.length_nil, hrl]; omega) (hl := by simp only [List.length_map, List.length_cons, List.length_nil, hrl]; omega)
    have hx3 : Ext w W3 := hg3.below w (hx.trans hx2)
    refine rn ?_
    have hquo : IntKind.i64.wrap (((y : Nat) : Int).tdiv 10000) = ((y / 10000 : Nat) : Int) := by
      rw [Int.tdiv_eq_ediv_of_nonneg (by omega)]
      exact (wrap_i64 (n := ((y : Nat) : Int) / 10000) (by omega) (by omega)).trans (by omega)
    refine sQuo hquo ?_
    refine rn ?_
    refine sAd tb (r := ((i + 1 : Nat) : Int)) ?_
    refine rn ?_
    refine G.lp (x := (i, ov)) (i + 1, u3) ?_ ⟨hx3, ?_, by simp only; omega⟩ (by simp only; omega)
    · simp only [hst]; exact (by repeat (first | exact Sub.nil _ | refine Sub.cons rfl ?_))
    · simp only [hst]
      rw [← List.map_append] at ho3
      exact ho3
  · have hie : i = l.length := by omega
    rw [hie, List.take_length] at ho hci hrl
    rw [hie, List.take_length]
    have hval : timesR k c l = (mulR 10000 k l c).1 ++ dig4 20 (mulR 10000 k l c).2 := rfl
    have h20 : (mulR 10000 k l c).2 < 10000 ^ 20 := Nat.lt_of_le_of_lt hci (by decide)
    have hnr := timesR_nrm (k := k) (more := c) hk0 hv.nr h20
    generalize hR : (mulR 10000 k l c) = R at *
    obtain ⟨row, cy⟩ := R
    simp only at hci hrl hval ho h20 ⊢
    refine rn ?_
    refine (G.loop (fun x : Nat × Nat × List Nat × Value => [(7, none, x.2.2.2), (8, none, .int .i64 (x.2.1 : Nat))])
      (fun x W => Ext w W ∧ Owns W w.heap.size x.2.2.2 3 1 ((row ++ x.2.2.1).map i64C) ∧ x.2.1 < 10000 ^ x.1 ∧ x.2.1 ≤ 2 ^ 60 ∧ x.2.2.1 ++ dig4 x.1 x.2.1 = dig4 20 cy ∧ x.2.2.1.length + x.1 ≤ 20) (fun x => x.1) (20, cy, [], ov) (by repeat (first | exact Sub.nil _ | refine Sub.cons rfl ?_)) ⟨hx, by simpa using ho, h20, hci, rfl, Nat.le_refl _⟩ ?_)
    clear hx ho hvW
    rintro ⟨f, cy2, pre, ov⟩ W ⟨hx, ho, hcf, hc60, hd, hpl⟩
    simp only at ho hcf hc60 hd hpl
    show G _ _ [(7, none, ov), (8, none, .int .i64 (cy2 : Nat))] _
    refine rn ?_
    first | refine G.condD rfl (fun hc => ?_) (fun hc => ?_) | refine G.condN rfl (fun hc => ?_) (fun hc => ?_) | refine G.cond rfl (fun hc => ?_) (fun hc => ?_)
    · obtain ⟨g, rfl, hds, hcg⟩ := dig4_step hcf (by omega)
      rw [hds] at hd
      have hrem : ((cy2 : Nat) : Int).tmod 10000 = ((cy2 % 10000 : Nat) : Int) := (Int.tmod_eq_emod_of_nonneg (by omega)).trans (by omega)
      have hquo : IntKind.i64.wrap (((cy2 : Nat) : Int).tdiv 10000) = ((cy2 / 10000 : Nat) : Int) := by
        rw [Int.tdiv_eq_ediv_of_nonneg (by omega)]
        exact (wrap_i64 (n := ((cy2 : Nat) : Int) / 10000) (by omega) (by omega)).trans (by omega)
      refine rn ?_
      refine sRem hrem ?_
      refine sBs' tb ([cy2 % 10000].map i64C) (fun us W2 ho2 hs2 hx2 => ?_) (hkl := by simp [i64C])
      have hx2s := hx2.size
      have hxs := hx.size
      refine sApp tb (ho.to hx2) ho2.sli (fun u3 W3 ho3 hg3 => ?_) (h1 := i64_one [_]) (hb := by simp only [List.length_map, List.length_append, List.length_cons, List.length_nil, hrl]; omega) (hl := by simp only [List.length_map, List.length_append, List.length_cons, List.length_nil, hrl]; omega)
      have hx3 : Ext w W3 := hg3.below w (hx.trans hx2)
      refine rn ?_
      refine sQuo hquo ?_
      refine rn ?_
      refine G.lp (x := (g + 1, cy2, pre, ov)) (g, cy2 / 10000, pre ++ [cy2 % 10000], u3) (by repeat (first | exact Sub.nil _ | refine Sub.cons rfl ?_)) ⟨hx3, ?_, hcg, by simp only; omega, by simp only; rw [List.append_assoc]; exact hd, by simp only [List.length_append, List.length_singleton]; omega⟩ (by simp only; omega)
      rw [← List.map_append, List.append_assoc] at ho3
      exact ho3
    · have h0 : cy2 = 0 := by omega
      rw [h0, dig4_zero, List.append_nil] at hd
      refine rn ?_
      refine G.ret1 rfl rfl rfl rfl ?_
      refine ⟨⟨?_, hnr⟩, hx⟩
      rw [hval, ← hd]
      exact ho
end Go.Proofs.YtlaingmhdgpkdaaGreatDoor.Num
end
section
open Go Go.Vg Go.RowKit Go.Proofs Go.Proofs.YtlaingmhdgpkdaaGreatDoor
namespace Go.Proofs.YtlaingmhdgpkdaaGreatDoor.Num
open Go.Nm

theorem dig4_len : ∀ f n, (dig4 f n).length ≤ f
  | 0, _ => Nat.le_refl _
  | f + 1, n => by
    rw [dig4]
    split
    · exact Nat.zero_le _
    · have := dig4_len f (n / 10000)
      simp only [List.length_cons]; omega
theorem timesR_len (k c : Nat) (l : List Nat) : (timesR k c l).length ≤ l.length + 20 := by
  unfold timesR
  have := dig4_len 20 (mulR 10000 k l c).2
  rw [List.length_append, mulR_len]
  omega
/-- times, told by numbers -/
theorem timesO_ok (v : Value) (l : List Nat) (k c : Nat) (w : World) (hv : Rt w v l) (hl : l.length ≤ 1000000) (hk : k ≤ 10000) (hk0 : 0 < k) (hc : c ≤ 2 ^ 60) :
    Ret Tryz.prog 75 ⟨[v, .int .i64 k, .int .i64 c]⟩ w fun r w' => (∃ m, Owns w' w.heap.size r 3 1 (m.map i64C) ∧ Nrm 10000 m ∧ vL 10000 m = vL 10000 l * k + c ∧ m.length ≤ l.length + 20) ∧ Ext w w' := by
  refine (timesR_ok v l k c w hv hl hk hk0 hc).mono ?_
  rintro r w' ⟨⟨hr, hn⟩, hx⟩
  refine ⟨⟨_, hr, hn, ?_, timesR_len k c l⟩, hx⟩
  refine timesR_val (Nat.lt_of_le_of_lt (carry_bd hk l c hv.nr.lt hc) (by decide))
theorem timesN_ok (v : Value) (l : List Nat) (k c : Nat) (w : World) (hv : Rt w v l) (hl : l.length ≤ 1000000) (hk : k ≤ 10000) (hk0 : 0 < k) (hc : c ≤ 2 ^ 60) :
    Ret Tryz.prog 75 ⟨[v, .int .i64 k, .int .i64 c]⟩ w fun r w' => (∃ m, Rt w' r m ∧ vL 10000 m = vL 10000 l * k + c ∧ m.length ≤ l.length + 20) ∧ Ext w w' := by
  refine (timesO_ok v l k c w hv hl hk hk0 hc).mono ?_
  rintro r w' ⟨⟨m, h1, h2, h3, h4⟩, hx⟩
  exact ⟨⟨m, ⟨h1.sli, h2⟩, h3, h4⟩, hx⟩
theorem ofR_ok (n : Nat) (w : World) (hn : n ≤ 2 ^ 60) : Ret Tryz.prog 143 ⟨[.int .i64 n]⟩ w fun r w' => (∃ m, Rt w' r m ∧ vL 10000 m = n ∧ m.length ≤ 20) ∧ Ext w w' := by
  refine ret_of_G Tryz.func143 rfl Tryz.ntmps143 rfl ?_
  simp only [argEnv]
  refine rn ?_
  refine sCall c75 (timesN_ok (.slice none 0 0) [] 1 n w (Rt.nil w) (Nat.zero_le _) (by decide) (by decide) hn) ?_
  rintro r w' ⟨⟨m, hm, he, hl⟩, hx⟩
  refine rn ?_
  refine G.ret1 rfl rfl rfl rfl ?_
  exact ⟨⟨m, hm, by rw [he]; simp [vL], by simpa using hl⟩, hx⟩
set_option maxHeartbeats 2000000 in
theorem power_ok (v : Value) (l : List Nat) (k n : Nat) (w : World) (hv : Rt w v l) (hl : l.length ≤ 100000) (hk : k = 2 ∨ k = 10) (hn : n ≤ 10000) :
    Ret Tryz.prog 144 ⟨[v, .int .i64 k, .int .i64 n]⟩ w fun r w' => (∃ m, Rt w' r m ∧ vL 10000 m = vL 10000 l * k ^ n ∧ m.length ≤ l.length + 20 * n) ∧ Ext w w' := by
  refine ret_of_G Tryz.func144 rfl Tryz.ntmps144 rfl ?_
  simp only [argEnv]
  refine rn ?_
  refine (G.loop (fun x : Nat × Value × List Nat => [(0, none, x.2.1), (1, none, .int .i64 k), (2, none, .int .i64 x.1)])
    (fun x W => Ext w W ∧ Rt W x.2.1 x.2.2 ∧ vL 10000 x.2.2 * k ^ x.1 = vL 10000 l * k ^ n ∧ x.2.2.length + 20 * x.1 ≤ l.length + 20 * n ∧ x.1 ≤ n) (fun x => x.1) (n, v, l) (by repeat (first | exact Sub.nil _ | refine Sub.cons rfl ?_)) ⟨Ext.refl _, hv, rfl, Nat.le_refl _, Nat.le_refl _⟩ ?_)
  rintro ⟨n2, v2, l2⟩ W ⟨hx, hv2, he, hlb, hn2⟩
  simp only at hv2 he hlb hn2
  show G _ _ [(0, none, v2), (1, none, .int .i64 k), (2, none, .int .i64 n2)] _
  refine rn ?_
  have hbe : (decide (((k : Nat) : Int) = 2) && decide ((13 : Int) ≤ ((n2 : Nat) : Int))) = decide (k = 2 ∧ 13 ≤ n2) := by
    rw [Bool.eq_iff_iff]
    simp only [Bool.and_eq_true, decide_eq_true_eq]
    omega
  rw [hbe]
  by_cases h2 : k = 2 ∧ 13 ≤ n2
  · rw [decide_eq_true h2]
    refine rn ?_
    refine sCall c75 (timesN_ok v2 l2 8192 0 W hv2 (by omega) (by decide) (by decide) (by decide)) ?_
    rintro v3 W3 ⟨⟨l3, hv3, he3, hl3⟩, hx3⟩
    refine rn ?_
    refine sAd tb (r := ((n2 - 13 : Nat) : Int)) ?_ (hp := (wrap_i64 (n := ((n2 : Nat) : Int) - 13) (by omega) (by omega)).trans (by omega))
    refine rn ?_
    refine G.lp (x := (n2, v2, l2)) (n2 - 13, v3, l3) (by repeat (first | exact Sub.nil _ | refine Sub.cons rfl ?_)) ⟨hx.trans hx3, hv3, ?_, by simp only; omega, by simp only; omega⟩ (by simp only; omega)
    simp only
    rw [he3, ← he, h2.1, Nat.add_zero, Nat.mul_assoc]
    congr 1
    rw [show 8192 = 2 ^ 13 from rfl, ← Nat.pow_add]
    congr 1
    omega
  rw [decide_eq_false h2]
  have hv2s := hv2.sl
  have hll : (l2.map i64C).length = l2.length := List.length_map ..
  refine rn ?_
  rw [hll]
  refine rn ?_
  have hbe2 : (decide (((k : Nat) : Int) = 10) && decide ((4 : Int) ≤ ((n2 : Nat) : Int)) && decide ((0 : Int) < ((l2.length : Nat) : Int))) = decide (k = 10 ∧ 4 ≤ n2 ∧ 0 < l2.length) := by
    rw [Bool.eq_iff_iff]
    simp only [Bool.and_eq_true, decide_eq_true_eq]
    omega
  rw [hbe2]
  refine G.join (fun x : Value × List Nat × Nat => [(0, none, x.1), (1, none, .int .i64 k), (2, none, .int .i64 x.2.2)]) (fun x W' => Ext w W' ∧ Rt W' x.1 x.2.1 ∧ vL 10000 x.2.1 * k ^ x.2.2 = vL 10000 l * k ^ n ∧ x.2.1.length + 20 * x.2.2 ≤ l.length + 20 * n ∧ x.2.2 ≤ n) ?_ ?_
  rotate_left
  · by_cases h4 : k = 10 ∧ 4 ≤ n2 ∧ 0 < l2.length
    · rw [decide_eq_true h4]
      obtain ⟨h10, h44, hpos⟩ := h4
      refine rn ?_
      have hquo : IntKind.i64.wrap (((n2 : Nat) : Int).tdiv 4) = ((n2 / 4 : Nat) : Int) := by
        rw [Int.tdiv_eq_ediv_of_nonneg (by omega)]
        exact (wrap_i64 (n := ((n2 : Nat) : Int) / 4) (by omega) (by omega)).trans (by omega)
      have hrem : ((n2 : Nat) : Int).tmod 4 = ((n2 % 4 : Nat) : Int) := (Int.tmod_eq_emod_of_nonneg (by omega)).trans (by omega)
      refine sQuo hquo ?_
      refine sMkS tb (z := .int .i64 0) (bytes := 8) (m := ((n2 / 4 : Nat) : Int)) (n2 / 4) (fun ov W1 ho1 hs1 hx1 _ => ?_)
      have ho1' : Owns W1 W.heap.size ov 3 1 ((List.replicate (n2 / 4) 0).map i64C) := by
        have : (List.replicate (n2 / 4) 0).map i64C = (List.replicate (n2 / 4) (Value.int .i64 0)).map fun u => [u] := by simp [i64C]
        rw [this]; exact ho1
      clear ho1
      have hxs := hx.size
      have hx1s := hx1.size
      refine rn ?_
      refine sApp tb ho1' (hv2s.to hx1) (fun u3 W3 ho3 hg3 => ?_) (h1 := i64_one _) (hb := by simp only [List.length_map, List.length_replicate]; omega) (hl := by simp only [List.length_map, List.length_replicate]; omega)
      have hx3 : Ext W W3 := hg3.below W hx1
      rw [← List.map_append] at ho3
      refine rn ?_
      refine sRem hrem ?_
      refine rn ?_
      refine G.met (u3, List.replicate (n2 / 4) 0 ++ l2, n2 % 4) (by repeat (first | exact Sub.nil _ | refine Sub.cons rfl ?_)) ⟨hx.trans hx3, ⟨ho3.sli, zeros_nrm (by decide) hv2.nr (List.length_pos_iff.1 hpos) _⟩, ?_, by simp only [List.length_append, List.length_replicate]; omega, by simp only; omega⟩
      simp only
      rw [zeros_val, ← he, h10, Nat.mul_comm (10000 ^ (n2 / 4)), Nat.mul_assoc]
      congr 1
      rw [show 10000 = 10 ^ 4 from rfl, ← Nat.pow_mul, ← Nat.pow_add]
      congr 1
      omega
    · rw [decide_eq_false h4]
      refine rn ?_
      exact G.met (v2, l2, n2) (by repeat (first | exact Sub.nil _ | refine Sub.cons rfl ?_)) ⟨hx, hv2, he, hlb, hn2⟩
  clear hx hv2 he hlb hn2 hbe hbe2 h2 hll hv2s
  rintro ⟨v3, l3, n3⟩ W3 ⟨hx, hv3, he, hlb, hn3⟩
  simp only at hv3 he hlb hn3
  show G _ _ [(0, none, v3), (1, none, .int .i64 k), (2, none, .int .i64 n3)] _
  refine rn ?_
  refine (G.loop (fun x : Nat × Value × List Nat => [(0, none, x.2.1), (1, none, .int .i64 k), (2, none, .int .i64 n3), (7, none, .int .i64 x.1)])
    (fun x W => Ext w W ∧ Rt W x.2.1 x.2.2 ∧ vL 10000 x.2.2 = vL 10000 l3 * k ^ x.1 ∧ x.2.2.length ≤ l3.length + 20 * x.1 ∧ x.1 ≤ n3) (fun x => n3 - x.1) (0, v3, l3) (by repeat (first | exact Sub.nil _ | refine Sub.cons rfl ?_)) ⟨hx, hv3, by simp, by simp, Nat.zero_le _⟩ ?_)
  clear hx hv3
  rintro ⟨i, v4, l4⟩ W ⟨hx, hv4, he4, hlb4, hi⟩
  simp only at hv4 he4 hlb4 hi
  show G _ _ [(0, none, v4), (1, none, .int .i64 k), (2, none, .int .i64 n3), (7, none, .int .i64 i)] _
  have hv4s := hv4.sl
  have hll : (l4.map i64C).length = l4.length := List.length_map ..
  refine rn ?_
  rw [hll]
  refine rn ?_
  have hbe : (decide (((i : Nat) : Int) < ((n3 : Nat) : Int)) && decide ((0 : Int) < ((l4.length : Nat) : Int))) = decide (i < n3 ∧ 0 < l4.length) := by
    rw [Bool.eq_iff_iff]
    simp only [Bool.and_eq_true, decide_eq_true_eq]
    omega
  rw [hbe]
  by_cases hlt : i < n3 ∧ 0 < l4.length
  · rw [decide_eq_true hlt]
    refine rn ?_
    refine sCall c75 (timesN_ok v4 l4 k 0 W hv4 (by omega) (by omega) (by omega) (by decide)) ?_
    rintro v5 W5 ⟨⟨l5, hv5, he5, hl5⟩, hx5⟩
    refine rn ?_
    refine sAd tb (r := ((i + 1 : Nat) : Int)) ?_
    refine rn ?_
    refine G.lp (x := (i, v4, l4)) (i + 1, v5, l5) (by repeat (first | exact Sub.nil _ | refine Sub.cons rfl ?_)) ⟨hx.trans hx5, hv5, ?_, by simp only; omega, by simp only; omega⟩ (by simp only; omega)
    simp only
    rw [he5, he4, Nat.add_zero, Nat.pow_succ, Nat.mul_assoc]
  · rw [decide_eq_false hlt]
    refine rn ?_
    refine G.ret1 rfl rfl rfl rfl ?_
    refine ⟨⟨l4, hv4, ?_, by omega⟩, hx⟩
    by_cases h0 : l4.length = 0
    · have h00 : l4 = [] := List.length_eq_zero_iff.1 h0
      rw [h00] at he4 ⊢
      have hk0 : 0 < k := by omega
      have : vL 10000 l3 = 0 := by
        have e := he4.symm
        simp only [vL] at e
        rcases Nat.mul_eq_zero.1 e with h | h
        · exact h
        · have := Nat.pow_pos hk0 (n := i); omega
      rw [← he, this]
      simp [vL]
    · rw [he4, ← he, show i = n3 by omega]
end Go.Proofs.YtlaingmhdgpkdaaGreatDoor.Num
end
section
open Go Go.Vg Go.RowKit Go.Proofs Go.Proofs.YtlaingmhdgpkdaaGreatDoor
namespace Go.Proofs.YtlaingmhdgpkdaaGreatDoor.Num
open Go.Nm

set_option maxHeartbeats 2000000 in
theorem cmpR_ok (v u : Value) (l m : List Nat) (w : World) (hv : Rt w v l) (hu : Rt w u m) (_ : l.length ≤ 1000000) (hm : m.length ≤ 1000000) :
    Ret Tryz.prog 145 ⟨[v, u]⟩ w fun r w' => r = .int .i64 (cmpV (vL 10000 l) (vL 10000 m)) ∧ Ext w w' := by
  have hvs := hv.sl
  have hus := hu.sl
  have hll : (l.map i64C).length = l.length := List.length_map ..
  have hml : (m.map i64C).length = m.length := List.length_map ..
  refine ret_of_G Tryz.func145 rfl Tryz.ntmps145 rfl ?_
  simp only [argEnv]
  refine rn ?_
  rw [hll, hml]
  by_cases hlm : l.length = m.length
  rotate_left
  · rw [decide_eq_false (p := ((l.length : Nat) : Int) = ((m.length : Nat) : Int)) (by omega)]
    refine rn ?_
    rw [hll, hml]
    refine rn ?_
    first | refine G.condD rfl (fun hc => ?_) (fun hc => ?_) | refine G.condN rfl (fun hc => ?_) (fun hc => ?_) | refine G.cond rfl (fun hc => ?_) (fun hc => ?_)
    · have hlt : vL 10000 l < vL 10000 m := hv.nr.len_lt (by decide) hu.nr (by omega)
      have hc1 : cmpV (vL 10000 l) (vL 10000 m) = -1 := by unfold cmpV; rw [if_pos hlt]
      rw [hc1]
      refine rn ?_
      refine G.ret1 rfl rfl rfl rfl ?_
      exact ⟨rfl, Ext.refl _⟩
    · have hlt : vL 10000 m < vL 10000 l := hu.nr.len_lt (by decide) hv.nr (by omega)
      have hc1 : cmpV (vL 10000 l) (vL 10000 m) = 1 := by unfold cmpV; rw [if_neg (by omega), if_pos hlt]
      rw [hc1]
      refine rn ?_
      refine G.ret1 rfl rfl rfl rfl ?_
      exact ⟨rfl, Ext.refl _⟩
  rw [decide_eq_true (p := ((l.length : Nat) : Int) = ((m.length : Nat) : Int)) (by omega)]
  refine rn ?_
  rw [hll]
  refine sAd tb (r := ((l.length : Nat) : Int) - 1) (hp := wrap_i64 (n := ((l.length : Nat) : Int) - 1) (by omega) (by omega)) ?_
  refine rn ?_
  refine (G.loop (fun k : Nat => [(0, none, v), (1, none, u), (5, none, .int .i64 ((k : Nat) - 1 : Int))]) (fun k W => Ext w W ∧ k ≤ l.length ∧ l.drop k = m.drop k) (fun k => k) l.length (by repeat (first | exact Sub.nil _ | refine Sub.cons rfl ?_)) ⟨Ext.refl _, Nat.le_refl _, by rw [List.drop_length, hlm, List.drop_length]⟩ ?_)
  rintro k W ⟨hx, hk, hd⟩
  have hvW := hvs.to hx
  have huW := hus.to hx
  refine rn ?_
  first | refine G.condD rfl (fun hc => ?_) (fun hc => ?_) | refine G.condN rfl (fun hc => ?_) (fun hc => ?_) | refine G.cond rfl (fun hc => ?_) (fun hc => ?_)
  · obtain ⟨j, rfl⟩ : ∃ j, k = j + 1 := ⟨k - 1, by omega⟩
    have hj1 : j < l.length := by omega
    have hj2 : j < m.length := by omega
    have hg1 : (l.map i64C)[j]? = some (i64C l[j]) := by rw [List.getElem?_map, List.getElem?_eq_getElem hj1]; rfl
    have hg2 : (m.map i64C)[j]? = some (i64C m[j]) := by rw [List.getElem?_map, List.getElem?_eq_getElem hj2]; rfl
    have hlt1 : l[j] < m[j] → vL 10000 l < vL 10000 m := cmp_at hv.nr.lt hu.nr.lt hj1 hj2 hd
    have hlt2 : m[j] < l[j] → vL 10000 m < vL 10000 l := cmp_at hu.nr.lt hv.nr.lt hj2 hj1 hd.symm
    have hdr : l[j] = m[j] → l.drop j = m.drop j := fun h => by rw [List.drop_eq_getElem_cons hj1, List.drop_eq_getElem_cons hj2, h, hd]
    generalize l[j] = x at *
    generalize m[j] = y at *
    rw [show ((j + 1 : Nat) : Int) - 1 = ((j : Nat) : Int) by omega]
    refine rn ?_
    refine G.regionM [(0, true), (1, true), (2, true), (3, true), (4, true), (5, true), (6, true), (7, true), (8, true)] (Ext W) (by kernel_rfl) (by kernel_rfl) rfl mixed (Ext.drew W) rfl ?_
    refine rd ?_
    refine dIa tb j ?_ (hj := fun _ => ⟨rfl, by rw [hll]; exact hj1⟩)
    refine rd ?_
    refine dIa tb j ?_ (hj := fun _ => ⟨rfl, by rw [hml]; exact hj2⟩)
    refine rd ?_
    refine GM.nil ?_
    have hx2 := hx.drew'
    by_cases hxy : x = y
    rotate_left
    · rw [decide_eq_false (p := ((x : Nat) : Int) = ((y : Nat) : Int)) (by omega)]
      refine rn ?_
      have hvW2 := hvs.to hx2
      have huW2 := hus.to hx2
      clear hvW huW
      refine G.regionM [(0, true), (1, true), (2, true), (3, true), (4, true), (5, true), (6, true), (7, true), (8, true)] (Ext W.drew) (by kernel_rfl) (by kernel_rfl) rfl mixed (Ext.drew W.drew) rfl ?_
      refine rd ?_
      refine dIa tb j ?_ (hj := fun _ => ⟨rfl, by rw [hll]; exact hj1⟩)
      refine rd ?_
      refine dIa tb j ?_ (hj := fun _ => ⟨rfl, by rw [hml]; exact hj2⟩)
      refine rd ?_
      refine GM.nil ?_
      have hx3 := hx2.drew'
      first | refine G.condD rfl (fun hc => ?_) (fun hc => ?_) | refine G.condN rfl (fun hc => ?_) (fun hc => ?_) | refine G.cond rfl (fun hc => ?_) (fun hc => ?_)
      · have hlt := hlt1 (by omega)
        have hc1 : cmpV (vL 10000 l) (vL 10000 m) = -1 := by unfold cmpV; rw [if_pos hlt]
        rw [hc1]
        refine rn ?_
        refine G.ret1 rfl rfl rfl rfl ?_
        exact ⟨rfl, hx3⟩
      · have hlt := hlt2 (by omega)
        have hc1 : cmpV (vL 10000 l) (vL 10000 m) = 1 := by unfold cmpV; rw [if_neg (by omega), if_pos hlt]
        rw [hc1]
        refine rn ?_
        refine G.ret1 rfl rfl rfl rfl ?_
        exact ⟨rfl, hx3⟩
    rw [decide_eq_true (p := ((x : Nat) : Int) = ((y : Nat) : Int)) (by omega)]
    refine rn ?_
    refine sAd tb (r := ((j : Nat) : Int) - 1) (hp := wrap_i64 (n := ((j : Nat) : Int) - 1) (by omega) (by omega)) ?_
    refine rn ?_
    exact G.lp (x := j + 1) j (by repeat (first | exact Sub.nil _ | refine Sub.cons rfl ?_)) ⟨hx2, by omega, hdr hxy⟩ (by omega)
  · have hk0 : k = 0 := by omega
    subst hk0
    rw [List.drop_zero, List.drop_zero] at hd
    subst hd
    have hc1 : cmpV (vL 10000 l) (vL 10000 l) = 0 := cmpV_eq.2 rfl
    rw [hc1]
    refine rn ?_
    refine G.ret1 rfl rfl rfl rfl ?_
    exact ⟨rfl, hx⟩
set_option maxHeartbeats 2000000 in
theorem parts_ok (b : Nat) (w : World) (hb : b < 2 ^ 63) : Ret Tryz.prog 120 ⟨[.int .u64 b]⟩ w fun r w' => r = .tuple ⟨[.int .i64 (mB b : Nat), .int .i64 ((kB b : Int) - 1074)]⟩ ∧ Ext w w' := by
  have hmk := mB_mask b
  have hand := and_low64 b 52 (by omega) (by decide)
  have hand2 := and_low64 (b / 2 ^ 52) 11 (by omega) (by decide)
  rw [show ((2 ^ 52 - 1 : Nat) : Int) = 4503599627370495 by decide] at hand
  rw [show ((2 ^ 11 - 1 : Nat) : Int) = 2047 by decide] at hand2
  have hk : kB b = b / 2 ^ 52 - 1 := rfl
  refine ret_of_G Tryz.func120 rfl Tryz.ntmps120 rfl ?_
  simp only [argEnv]
  refine rn ?_
  rw [hand]
  refine sCv tb (r := ((b % 2 ^ 52 : Nat) : Int)) ?_
  refine rn ?_
  refine sShr (n := 52) (shr_nat b 52) ?_
  refine rn ?_
  rw [hand2]
  refine sCv tb (r := ((b / 2 ^ 52 : Nat) : Int)) ?_ (hr := (wrap_i64 (n := ((b / 2 ^ 52 % 2 ^ 11 : Nat) : Int)) (by omega) (by omega)).trans (by omega))
  refine rn ?_
  by_cases h0 : b / 2 ^ 52 = 0
  · rw [if_pos h0] at hmk
    rw [decide_eq_true (p := ((b / 2 ^ 52 : Nat) : Int) = 0) (by omega)]
    refine rn ?_
    refine G.ret2 rfl rfl rfl rfl rfl ?_
    exact ⟨by rw [hmk, hk, h0]; rfl, Ext.refl _⟩
  · rw [if_neg h0] at hmk
    rw [decide_eq_false (p := ((b / 2 ^ 52 : Nat) : Int) = 0) (by omega)]
    refine rn ?_
    refine sAd tb (r := ((mB b : Nat) : Int)) ?_ (hp := (wrap_i64 (n := ((b % 2 ^ 52 : Nat) : Int) + 4503599627370496) (by omega) (by omega)).trans (by omega))
    refine rn ?_
    refine sAd tb (r := (kB b : Int) - 1074) ?_ (hp := (wrap_i64 (n := ((b / 2 ^ 52 : Nat) : Int) - 1075) (by omega) (by omega)).trans (by omega))
    refine rn ?_
    refine G.ret2 rfl rfl rfl rfl rfl ?_
    exact ⟨rfl, Ext.refl _⟩
set_option maxHeartbeats 2000000 in
theorem below_ok (m : Nat) (e : Int) (v : Value) (l : List Nat) (x : Int) (w : World) (hv : Rt w v l) (hl : l.length ≤ 10000) (hm : m ≤ 2 ^ 60) (he1 : -2000 ≤ e) (he2 : e ≤ 2000) (hx1 : -5000 ≤ x) (hx2 : x ≤ 5000) :
    Ret Tryz.prog 121 ⟨[.int .i64 m, .int .i64 e, .agg ⟨[v, .int .i64 x]⟩]⟩ w fun r w' => r = .int .i64 (belowP m e (vL 10000 l) x) ∧ Ext w w' := by
  have hvs := hv.sl
  refine ret_of_G Tryz.func121 rfl Tryz.ntmps121 rfl ?_
  simp only [argEnv]
  refine rn ?_
  refine sBox (us := [v, .int .i64 x]) (fun W1 hb1 hs1 hx1 => ?_) (hv := rfl)
  refine rn ?_
  refine G.regionM [(0, true), (2, true), (3, true), (1, false), (4, true), (5, true)] (Ext W1) (by kernel_rfl) (by kernel_rfl) rfl mixed (Ext.drew W1) rfl ?_
  refine rd ?_
  refine GM.eff (Step.callF rfl rfl rfl c143 rfl (ofR_ok m _ hm) (fun va W2 hq => ?_))
  obtain ⟨⟨la, hra, hea, hla⟩, hx2⟩ := hq
  refine ⟨(Ext.drew W1).trans hx2, ?_⟩
  refine rd ?_
  refine GM.nil ?_
  have hx12 := (Ext.drew W1).trans hx2
  have hx02 := hx1.trans hx12
  have hb2 := hb1.to hx12
  have hrb := hv.to hx02
  clear hb1 hx12 hx2 hvs hs1
  obtain ⟨b0, hb0⟩ : ∃ b, b = w.heap.size := ⟨_, rfl⟩
  refine rn ?_
  refine G.join (fun y : Value × List Nat × Value × List Nat => [(5, none, ptr w.heap.size), (7, none, y.1), (8, none, y.2.2.1)]) (fun y W' => Ext w W' ∧ Bx W' w.heap.size [v, .int .i64 x] ∧ Rt W' y.1 y.2.1 ∧ Rt W' y.2.2.1 y.2.2.2 ∧ vL 10000 y.2.1 = m * 2 ^ e.toNat ∧ vL 10000 y.2.2.2 = vL 10000 l * 2 ^ (-e).toNat ∧ y.2.1.length ≤ 50000 ∧ y.2.2.2.length ≤ 50000) ?_ ?_
  rotate_left
  · by_cases h0 : 0 < e
    · rw [decide_eq_true h0]
      obtain ⟨n, hn⟩ : ∃ n : Nat, (n : Int) = e := ⟨e.toNat, by omega⟩
      rw [← hn]
      refine rn ?_
      refine sCall c144 (power_ok va la 2 n W2 hra (by omega) (.inl rfl) (by omega)) ?_
      rintro v3 W3 ⟨⟨l3, h3, e3, k3⟩, hx3⟩
      refine rn ?_
      refine G.met (v3, l3, v, l) (by repeat (first | exact Sub.nil _ | refine Sub.cons rfl ?_)) ⟨hx02.trans hx3, hb2.to hx3, h3, hrb.to hx3, ?_, ?_, by simp only; omega, by simp only; omega⟩
      · simp only; rw [e3, hea]; rfl
      · simp only
        rw [show (-(n : Int)).toNat = 0 by omega, Nat.pow_zero, Nat.mul_one]
    · rw [decide_eq_false h0]
      obtain ⟨n, hn⟩ : ∃ n : Nat, (n : Int) = -e := ⟨(-e).toNat, by omega⟩
      have hne : e = -(n : Int) := by omega
      subst hne
      refine rn ?_
      refine sNeg ?_ (hr := wrap_i64 (by omega) (by omega))
      rw [show 0 - -(n : Int) = (n : Int) by omega]
      refine sCall c144 (power_ok v l 2 n W2 hrb (by omega) (.inl rfl) (by omega)) ?_
      rintro v3 W3 ⟨⟨l3, h3, e3, k3⟩, hx3⟩
      refine rn ?_
      refine G.met (va, la, v3, l3) (by repeat (first | exact Sub.nil _ | refine Sub.cons rfl ?_)) ⟨hx02.trans hx3, hb2.to hx3, hra.to hx3, h3, ?_, ?_, by simp only; omega, by simp only; omega⟩
      · simp only
        rw [hea, show (-(n : Int)).toNat = 0 by omega, Nat.pow_zero, Nat.mul_one]
      · simp only; rw [e3, show (- -(n : Int)).toNat = n by omega]
  clear hra hea hla hrb hb2 hx02 hx1
  rintro ⟨va, la, vb, lb⟩ W4 ⟨hx4, hb4, hra, hrb, hea, heb, hla, hlb⟩
  simp only at hra hrb hea heb hla hlb
  show G _ _ [(5, none, ptr w.heap.size), (7, none, va), (8, none, vb)] _
  refine rn ?_
  unfold belowP
  refine G.join (fun y : Value × List Nat × Value × List Nat => [(7, none, y.1), (8, none, y.2.2.1)]) (fun y W' => Ext w W' ∧ Rt W' y.1 y.2.1 ∧ Rt W' y.2.2.1 y.2.2.2 ∧ vL 10000 y.2.1 = m * 2 ^ e.toNat * 10 ^ (-x).toNat ∧ vL 10000 y.2.2.2 = vL 10000 l * 2 ^ (-e).toNat * 10 ^ x.toNat ∧ y.2.1.length ≤ 1000000 ∧ y.2.2.2.length ≤ 1000000) ?_ ?_
  rotate_left
  · by_cases h0 : 0 < x
    · rw [decide_eq_true h0]
      obtain ⟨n, hn⟩ : ∃ n : Nat, (n : Int) = x := ⟨x.toNat, by omega⟩
      subst hn
      refine rn ?_
      refine sCall c144 (power_ok vb lb 10 n W4 hrb (by omega) (.inr rfl) (by omega)) ?_
      rintro v3 W3 ⟨⟨l3, h3, e3, k3⟩, hx3⟩
      refine rn ?_
      refine G.met (va, la, v3, l3) (by repeat (first | exact Sub.nil _ | refine Sub.cons rfl ?_)) ⟨hx4.trans hx3, hra.to hx3, h3, ?_, ?_, by simp only; omega, by simp only; omega⟩
      · simp only
        rw [hea, show (-(n : Int)).toNat = 0 by omega, Nat.pow_zero, Nat.mul_one]
      · simp only; rw [e3, heb]; rfl
    · rw [decide_eq_false h0]
      obtain ⟨n, hn⟩ : ∃ n : Nat, (n : Int) = -x := ⟨(-x).toNat, by omega⟩
      have hne : x = -(n : Int) := by omega
      subst hne
      refine rn ?_
      refine sNeg ?_ (hr := wrap_i64 (by omega) (by omega))
      rw [show 0 - -(n : Int) = (n : Int) by omega]
      refine sCall c144 (power_ok va la 10 n W4 hra (by omega) (.inr rfl) (by omega)) ?_
      rintro v3 W3 ⟨⟨l3, h3, e3, k3⟩, hx3⟩
      refine rn ?_
      refine G.met (v3, l3, vb, lb) (by repeat (first | exact Sub.nil _ | refine Sub.cons rfl ?_)) ⟨hx4.trans hx3, h3, hrb.to hx3, ?_, ?_, by simp only; omega, by simp only; omega⟩
      · simp only; rw [e3, hea, show (- -(n : Int)).toNat = n by omega]
      · simp only
        rw [heb, show (-(n : Int)).toNat = 0 by omega, Nat.pow_zero, Nat.mul_one]
  clear hra hrb hea heb hla hlb hb4 hx4
  rintro ⟨va, la, vb, lb⟩ W5 ⟨hx5, hra, hrb, hea, heb, hla, hlb⟩
  simp only at hra hrb hea heb hla hlb
  show G _ _ [(7, none, va), (8, none, vb)] _
  refine rn ?_
  refine sCall c145 (cmpR_ok va vb la lb W5 hra hrb hla hlb) ?_
  rintro _ W6 ⟨rfl, hx6⟩
  refine rn ?_
  refine G.ret1 rfl rfl rfl rfl ?_
  exact ⟨by rw [hea, heb], hx5.trans hx6⟩
end Go.Proofs.YtlaingmhdgpkdaaGreatDoor.Num
end
section
open Go Go.Vg Go.RowKit Go.Proofs Go.Proofs.YtlaingmhdgpkdaaGreatDoor
namespace Go.Proofs.YtlaingmhdgpkdaaGreatDoor.Num
open Go.Nm

/-- what the search finds -/
structure NearR (D : Nat) (n : Nat) (x : Int) (b : Nat) : Prop where
  zero : D = 0 ∨ (n : Int) + x < -340 → b = 0
  inf : ¬ (D = 0 ∨ (n : Int) + x < -340) → 320 < (n : Int) + x → b = infB
  mid : ¬ (D = 0 ∨ (n : Int) + x < -340) → ¬ 320 < (n : Int) + x → ∃ lo, IsLo (D * 10 ^ x.toNat * 2 ^ cP) (10 ^ (-x).toNat) lo ∧ b = refR (D * 10 ^ x.toNat * 2 ^ cP) (10 ^ (-x).toNat) lo
theorem kB_bd {b : Nat} (h : b ≤ infB) : kB b ≤ 2046 := by
  have : infB = 2047 * 2 ^ 52 := rfl
  unfold kB; omega
set_option maxHeartbeats 4000000 in
theorem nearestR_ok (v : Value) (l : List Nat) (x : Int) (n : Nat) (w : World) (hv : Rt w v l) (hl : l.length ≤ 10000) (hn : n ≤ 1000) (hx1 : -100000000 ≤ x) (hx2 : x ≤ 100000000) :
    Ret Tryz.prog 77 ⟨[.agg ⟨[v, .int .i64 x]⟩, .int .i64 n]⟩ w fun r w' => (∃ b : Nat, r = .int .u64 b ∧ b ≤ infB ∧ NearR (vL 10000 l) n x b) ∧ Ext w w' := by
  have hvs := hv.sl
  have hll : (l.map i64C).length = l.length := List.length_map ..
  have hz : vL 10000 l = 0 ↔ l.length = 0 := (hv.nr.zero (by decide)).trans List.length_eq_zero_iff.symm
  have hinf : infB = 9218868437227405312 := by decide
  refine ret_of_G Tryz.func77 rfl Tryz.ntmps77 rfl ?_
  simp only [argEnv]
  refine rn ?_
  refine sBox (us := [v, .int .i64 x]) (fun W1 hb1 hs1 hx01 => ?_) (hv := rfl)
  have hvs := hvs.to hx01
  refine rn ?_
  rw [hll]
  refine rn ?_
  refine sAd tb (r := ((n : Nat) : Int) + x) ?_ (hp := wrap_i64 (n := ((n : Nat) : Int) + x) (by omega) (by omega))
  refine rn ?_
  have hbe : (decide (((l.length : Nat) : Int) = 0) || decide (((n : Nat) : Int) + x < -340)) = decide (vL 10000 l = 0 ∨ ((n : Nat) : Int) + x < -340) := by
    rw [Bool.eq_iff_iff]
    simp only [Bool.or_eq_true, decide_eq_true_eq, hz]
    omega
  rw [hbe]
  clear hbe hz
  have hd1 : vL 10000 l = vL 10000 l := rfl
  by_cases hc1 : vL 10000 l = 0 ∨ ((n : Nat) : Int) + x < -340
  · rw [decide_eq_true hc1]
    refine rn ?_
    refine G.ret1 rfl rfl rfl rfl ?_
    exact ⟨⟨0, rfl, Nat.zero_le _, fun _ => rfl, fun h => absurd hc1 h, fun h => absurd hc1 h⟩, hx01⟩
  rw [decide_eq_false hc1]
  refine rn ?_
  refine sAd tb (r := ((n : Nat) : Int) + x) ?_ (hp := wrap_i64 (n := ((n : Nat) : Int) + x) (by omega) (by omega))
  refine rn ?_
  by_cases hc2 : 320 < ((n : Nat) : Int) + x
  · rw [decide_eq_true hc2]
    refine rn ?_
    refine G.ret1 rfl rfl rfl rfl ?_
    exact ⟨⟨infB, by rw [hinf]; rfl, Nat.le_refl _, fun h => absurd h hc1, fun _ _ => rfl, fun _ h => absurd hc2 h⟩, hx01⟩
  rw [decide_eq_false hc2]
  have hlow : ¬ ((n : Nat) : Int) + x < -340 := fun h => hc1 (.inr h)
  obtain ⟨X, hX⟩ : ∃ X, X = vL 10000 l * 10 ^ x.toNat * 2 ^ cP := ⟨_, rfl⟩
  obtain ⟨B, hBe⟩ : ∃ B, B = 10 ^ (-x).toNat := ⟨_, rfl⟩
  have hbv : ∀ b, belowP (mB b) ((kB b : Int) - 1074) (vL 10000 l) x = cmpV (vB b * B) X := fun b => by rw [hX, hBe]; exact below_v b _ x
  have hbh : ∀ b, belowP (2 * mB b + 1) ((kB b : Int) - 1074 - 1) (vL 10000 l) x = cmpV (hB b * B) X := fun b => by rw [hX, hBe]; exact below_h b _ x
  refine rn ?_
  refine (G.loop (fun y : Nat × Nat => [(2, none, ptr w.heap.size), (5, none, .int .u64 (y.1 : Nat)), (6, none, .int .u64 (y.2 : Nat))])
    (fun y W => Ext w W ∧ Bx W w.heap.size [v, .int .i64 x] ∧ Srch X B y.1 y.2) (fun y => y.2 - y.1) (0, infB) (by repeat (first | exact Sub.nil _ | refine Sub.cons rfl ?_)) ⟨hx01, hb1, Srch.start⟩ ?_)
  clear hb1 hvs hs1 hx01
  rintro ⟨lo, hi⟩ W ⟨hx, hb, hS⟩
  simp only at hS
  show G _ _ [(2, none, ptr w.heap.size), (5, none, .int .u64 (lo : Nat)), (6, none, .int .u64 (hi : Nat))] _
  have hlt := hS.lt
  have hib := hS.hb
  have hrW := hv.to hx
  refine rn ?_
  refine GL.cons (Step.arith (k := .u64) (a := ((hi : Nat) : Int)) (b := ((lo : Nat) : Int)) (r := ((hi - lo : Nat) : Int)) rfl (Op1.of rfl (by first | exact fun _ => rfl | exact fun h => h | exact fun h => bL h | exact fun h => bL (bL h) | exact fun h => bL (bL (bL h)))) (Op1.of rfl (by first | exact fun _ => rfl | exact fun h => h | exact fun h => bL h | exact fun h => bL (bL h) | exact fun h => bL (bL (bL h)))) ((wrap_u64 (n := ((hi : Nat) : Int) - ((lo : Nat) : Int)) (by omega) (by omega)).trans (by omega)) rfl ?_)
  refine rn ?_
  first | refine G.condD rfl (fun hc => ?_) (fun hc => ?_) | refine G.condN rfl (fun hc => ?_) (fun hc => ?_) | refine G.cond rfl (fun hc => ?_) (fun hc => ?_)
  · obtain ⟨mid, hmid⟩ : ∃ mid, mid = lo + (hi - lo) / 2 := ⟨_, rfl⟩
    have hq : IntKind.u64.wrap (((hi - lo : Nat) : Int).tdiv 2) = (((hi - lo) / 2 : Nat) : Int) := by
      rw [Int.tdiv_eq_ediv_of_nonneg (by omega)]
      exact (wrap_u64 (n := ((hi - lo : Nat) : Int) / 2) (by omega) (by omega)).trans (by omega)
    have hkb := kB_bd (b := mid) (by omega)
    have hmb := (bits_of mid).2.1
    have hmr : ((kB mid : Nat) : Int) - 1074 ≤ 2000 := by omega
    refine rn ?_
    refine GL.cons (Step.arith (k := .u64) (a := ((hi : Nat) : Int)) (b := ((lo : Nat) : Int)) (r := ((hi - lo : Nat) : Int)) rfl (Op1.of rfl (by first | exact fun _ => rfl | exact fun h => h | exact fun h => bL h | exact fun h => bL (bL h) | exact fun h => bL (bL (bL h)))) (Op1.of rfl (by first | exact fun _ => rfl | exact fun h => h | exact fun h => bL h | exact fun h => bL (bL h) | exact fun h => bL (bL (bL h)))) ((wrap_u64 (n := ((hi : Nat) : Int) - ((lo : Nat) : Int)) (by omega) (by omega)).trans (by omega)) rfl ?_)
    refine sQuo hq ?_
    refine GL.cons (Step.arith (k := .u64) (a := ((lo : Nat) : Int)) (b := (((hi - lo) / 2 : Nat) : Int)) (r := ((mid : Nat) : Int)) rfl (Op1.of rfl (by first | exact fun _ => rfl | exact fun h => h | exact fun h => bL h | exact fun h => bL (bL h) | exact fun h => bL (bL (bL h)))) (Op1.of rfl (by first | exact fun _ => rfl | exact fun h => h | exact fun h => bL h | exact fun h => bL (bL h) | exact fun h => bL (bL (bL h)))) ((wrap_u64 (n := ((lo : Nat) : Int) + (((hi - lo) / 2 : Nat) : Int)) (by omega) (by omega)).trans (by omega)) rfl ?_)
    refine rn ?_
    refine sCall c120 (parts_ok mid W (by omega)) ?_
    rintro _ W2 ⟨rfl, hx2⟩
    have hb := hb.to hx2
    refine rn ?_
    refine sCall c121 (below_ok (mB mid) ((kB mid : Int) - 1074) v l x W2 (hrW.to hx2) hl (by omega) (by omega) (by omega) (by omega) (by omega)) ?_
    rintro _ W3 ⟨rfl, hx3⟩
    rw [hbv mid]
    have hb := hb.to hx3
    have hx4 := (hx.trans hx2).trans hx3
    refine rn ?_
    by_cases hle : vB mid * B ≤ X
    · rw [decide_eq_true (cmpV_le.2 hle)]
      refine rn ?_
      exact G.lp (x := (lo, hi)) (mid, hi) (by repeat (first | exact Sub.nil _ | refine Sub.cons rfl ?_)) ⟨hx4, hb, hS.low (by omega) hle⟩ (by simp only; omega)
    · rw [decide_eq_false (fun h => hle (cmpV_le.1 h))]
      refine rn ?_
      exact G.lp (x := (lo, hi)) (lo, mid) (by repeat (first | exact Sub.nil _ | refine Sub.cons rfl ?_)) ⟨hx4, hb, hS.high (by omega) (by omega) hle⟩ (by simp only; omega)
  · have hlo := hS.fin (by omega)
    have hkb := kB_bd (b := lo) (by omega)
    have hmb := (bits_of lo).2.1
    refine rn ?_
    refine sCall c120 (parts_ok lo W (by omega)) ?_
    rintro _ W2 ⟨rfl, hx2⟩
    have hb := hb.to hx2
    refine rn ?_
    refine sAd tb (r := ((2 * mB lo : Nat) : Int)) ?_ (hp := (wrap_i64 (n := 2 * ((mB lo : Nat) : Int)) (by omega) (by omega)).trans (by omega))
    refine sAd tb (r := ((2 * mB lo + 1 : Nat) : Int)) ?_
    refine rn ?_
    refine sAd tb (r := (kB lo : Int) - 1074 - 1) ?_ (hp := wrap_i64 (n := (kB lo : Int) - 1074 - 1) (by omega) (by omega))
    refine rn ?_
    refine sCall c121 (below_ok (2 * mB lo + 1) ((kB lo : Int) - 1074 - 1) v l x W2 (hrW.to hx2) hl (by omega) (by omega) (by omega) (by omega) (by omega)) ?_
    rintro _ W3 ⟨rfl, hx3⟩
    rw [hbh lo]
    have hx4 := (hx.trans hx2).trans hx3
    have hR : ∀ b, b = refR X B lo → NearR (vL 10000 l) n x b := fun b hb => ⟨fun h => absurd h hc1, fun _ h => absurd h hc2, fun _ _ => ⟨lo, by rw [← hX, ← hBe]; exact hlo, by rw [← hX, ← hBe]; exact hb⟩⟩
    have hloi := hlo.lt
    have hrm : ((lo : Nat) : Int).tmod 2 = ((lo % 2 : Nat) : Int) := (Int.tmod_eq_emod_of_nonneg (by omega)).trans (by omega)
    refine rn ?_
    refine sRem hrm ?_
    refine rn ?_
    have hbe : (decide (cmpV (hB lo * B) X < 0) || decide (cmpV (hB lo * B) X = 0) && decide (((lo % 2 : Nat) : Int) = 1)) = decide (hB lo * B < X ∨ (hB lo * B = X ∧ lo % 2 = 1)) := by
      rw [Bool.eq_iff_iff]
      simp only [Bool.or_eq_true, Bool.and_eq_true, decide_eq_true_eq, cmpV_lt, cmpV_eq]
      omega
    rw [hbe]
    by_cases hup : hB lo * B < X ∨ (hB lo * B = X ∧ lo % 2 = 1)
    · have e : refR X B lo = lo + 1 := by unfold refR; rw [if_pos hup]
      rw [decide_eq_true hup]
      refine rn ?_
      refine GL.cons (Step.arith (k := .u64) (a := ((lo : Nat) : Int)) (b := 1) (r := ((lo + 1 : Nat) : Int)) rfl (Op1.of rfl (by first | exact fun _ => rfl | exact fun h => h | exact fun h => bL h | exact fun h => bL (bL h) | exact fun h => bL (bL (bL h)))) (Op1.of rfl (by first | exact fun _ => rfl | exact fun h => h | exact fun h => bL h | exact fun h => bL (bL h) | exact fun h => bL (bL (bL h)))) ((wrap_u64 (n := ((lo : Nat) : Int) + 1) (by omega) (by omega)).trans (by omega)) rfl ?_)
      refine rn ?_
      refine G.ret1 rfl rfl rfl rfl ?_
      exact ⟨⟨lo + 1, rfl, by omega, hR _ e.symm⟩, hx4⟩
    · have e : refR X B lo = lo := by unfold refR; rw [if_neg hup]
      rw [decide_eq_false hup]
      refine rn ?_
      refine G.ret1 rfl rfl rfl rfl ?_
      exact ⟨⟨lo, rfl, by omega, hR _ e.symm⟩, hx4⟩
end Go.Proofs.YtlaingmhdgpkdaaGreatDoor.Num
end
section
open Go Go.Vg Go.RowKit Go.Proofs Go.Proofs.YtlaingmhdgpkdaaGreatDoor
namespace Go.Proofs.YtlaingmhdgpkdaaGreatDoor.Num
open Go.Nm

theorem digitR_ok (c : UInt8) (w : World) : Ret Tryz.prog 74 ⟨[U c]⟩ w fun r w' => r = .bool (isD c) ∧ Ext w w' := by
  refine ret_of_G Tryz.func74 rfl Tryz.ntmps74 rfl ?_
  simp only [argEnv]
  refine rn ?_
  refine G.ret1 rfl rfl rfl rfl ?_
  refine ⟨?_, Ext.refl _⟩
  unfold isD
  congr 2 <;> exact decide_eq_decide.2 (by omega)
theorem nanR_ok (w : World) : Ret Tryz.prog 72 ⟨[]⟩ w fun r w' => r = Fl nanB ∧ Ext w w' := by
  refine ret_of_G Tryz.func72 rfl Tryz.ntmps72 rfl ?_
  simp only [argEnv]
  refine rn ?_
  refine GL.cons (Step.ext rfl rfl (by repeat (first | exact OpL.nil | refine OpL.cons (Op1.of rfl (by first | exact fun _ => rfl | exact fun h => h | exact fun h => bL h | exact fun h => bL (bL h) | exact fun h => bL (bL (bL h)))) ?_)) (run_ofbits Tryz.func67 (by kernel_rfl) (by kernel_rfl) (by kernel_rfl) (by kernel_rfl) nanB _) rfl ?_)
  refine rn ?_
  refine G.ret1 rfl rfl rfl rfl ?_
  exact ⟨rfl, Ext.refl _⟩
theorem signedR_ok (b : Nat) (neg : Bool) (w : World) (hb : b < 2 ^ 63) : Ret Tryz.prog 73 ⟨[.int .u64 b, .bool neg]⟩ w fun r w' => r = Fl (b + sgn neg) ∧ Ext w w' := by
  have hor := or_sgn hb true
  refine ret_of_G Tryz.func73 rfl Tryz.ntmps73 rfl ?_
  simp only [argEnv]
  refine rn ?_
  cases neg
  · refine rn ?_
    refine GL.cons (Step.ext rfl rfl (by repeat (first | exact OpL.nil | refine OpL.cons (Op1.of rfl (by first | exact fun _ => rfl | exact fun h => h | exact fun h => bL h | exact fun h => bL (bL h) | exact fun h => bL (bL (bL h)))) ?_)) (run_ofbits Tryz.func67 (by kernel_rfl) (by kernel_rfl) (by kernel_rfl) (by kernel_rfl) _ _) rfl ?_)
    refine rn ?_
    refine G.ret1 rfl rfl rfl rfl ?_
    exact ⟨rfl, Ext.refl _⟩
  · refine rn ?_
    rw [show (9223372036854775808 : Int) = ((sgn true : Nat) : Int) by decide, hor]
    refine GL.cons (Step.ext rfl rfl (by repeat (first | exact OpL.nil | refine OpL.cons (Op1.of rfl (by first | exact fun _ => rfl | exact fun h => h | exact fun h => bL h | exact fun h => bL (bL h) | exact fun h => bL (bL (bL h)))) ?_)) (run_ofbits Tryz.func67 (by kernel_rfl) (by kernel_rfl) (by kernel_rfl) (by kernel_rfl) _ _) rfl ?_)
    refine rn ?_
    refine G.ret1 rfl rfl rfl rfl ?_
    exact ⟨rfl, Ext.refl _⟩
set_option maxHeartbeats 1000000 in
theorem lowerR_ok (s : List UInt8) (w : World) (hs : s.length ≤ 1000000) : Ret Tryz.prog 71 ⟨[S s]⟩ w fun r w' => r = S (s.map lowB) ∧ Ext w w' := by
  refine ret_of_G Tryz.func71 rfl Tryz.ntmps71 rfl ?_
  simp only [argEnv]
  refine rn ?_
  refine GL.cons (Step.strBytesF tb rfl (Op1.of rfl (fun _ => rfl)) rfl rfl rfl rfl ?_)
  intro v W1 hf1 hx1
  refine rn ?_
  refine (G.loop (fun i : Nat => [(3, none, v), (4, none, .int .i64 i)]) (fun i W => Ext w W ∧ Frz W w.heap.size v 5 ((s.take i).map lowB ++ s.drop i) ∧ i ≤ s.length) (fun i => s.length - i) 0 (by repeat (first | exact Sub.nil _ | refine Sub.cons rfl ?_)) ⟨hx1, by simpa using hf1, Nat.zero_le _⟩ ?_)
  clear hf1 hx1
  rintro i W ⟨hx, hf, hi⟩
  have hlen : ((s.take i).map lowB ++ s.drop i).length = s.length := by rw [List.length_append, List.length_map, List.length_take, List.length_drop]; omega
  have hby := hf.sli (by rw [hlen]; omega)
  have hsl : Sli W v 1 (bysC ((s.take i).map lowB ++ s.drop i)) := hby
  refine rn ?_
  rw [bysC_len, hlen]
  refine rn ?_
  first | refine G.condD rfl (fun hc => ?_) (fun hc => ?_) | refine G.condN rfl (fun hc => ?_) (fun hc => ?_) | refine G.cond rfl (fun hc => ?_) (fun hc => ?_)
  · have hlt : i < s.length := by omega
    have hdr : s.drop i = s[i] :: s.drop (i + 1) := List.drop_eq_getElem_cons hlt
    have htk : s.take (i + 1) = s.take i ++ [s[i]] := List.take_succ_eq_append_getElem hlt
    have htl : ((s.take i).map lowB).length = i := by rw [List.length_map, List.length_take]; omega
    generalize s[i] = c at hdr htk
    rw [hdr] at hf hsl hlen
    have hget : (bysC ((s.take i).map lowB ++ c :: s.drop (i + 1)))[i]? = some [U c] := by
      unfold bysC
      rw [List.getElem?_map, List.getElem?_append_right (by omega), htl, Nat.sub_self]; rfl
    have hlow := lowB_nat c
    refine rn ?_
    refine sIa tb i ?_ (hj := fun _ => ⟨rfl, by rw [bysC_len, hlen]; exact hlt⟩)
    refine rn ?_
    refine sIa tb i ?_ (hj := fun _ => ⟨rfl, by rw [bysC_len, hlen]; exact hlt⟩)
    refine rn ?_
    have hce : (decide ((65 : Int) ≤ (c.toNat : Int)) && decide ((c.toNat : Int) ≤ 90)) = decide (65 ≤ c.toNat ∧ c.toNat ≤ 90) := by
      rw [Bool.eq_iff_iff]
      simp only [Bool.and_eq_true, decide_eq_true_eq]
      omega
    rw [hce]
    by_cases hup : 65 ≤ c.toNat ∧ c.toNat ≤ 90
    · rw [decide_eq_true hup]
      rw [if_pos hup] at hlow
      refine rn ?_
      refine sIa tb i ?_ (hj := fun _ => ⟨rfl, by rw [bysC_len, hlen]; exact hlt⟩)
      refine rn ?_
      refine GL.cons (Step.arith (k := .u8) (a := (c.toNat : Int)) (b := 32) (r := ((lowB c).toNat : Int)) rfl (Op1.of rfl (by first | exact fun _ => rfl | exact fun h => h | exact fun h => bL h | exact fun h => bL (bL h) | exact fun h => bL (bL (bL h)))) (Op1.of rfl (by first | exact fun _ => rfl | exact fun h => h | exact fun h => bL h | exact fun h => bL (bL h) | exact fun h => bL (bL (bL h)))) ((Go.Vg.wrap_u8 _).trans (by omega)) rfl ?_)
      refine sIa tb i ?_ (hj := fun _ => ⟨rfl, by rw [bysC_len, hlen]; exact hlt⟩)
      refine GL.cons (Step.storeF tb (u := lowB c) rfl (Op1.of rfl (fun _ => rfl)) (Op1.of rfl (fun _ => rfl)) rfl hf (by rw [hlen]; exact hlt) ?_)
      intro W2 hf2 hb2
      refine rn ?_
      refine sAd tb (r := ((i + 1 : Nat) : Int)) ?_
      refine rn ?_
      refine G.lp (x := i) (i + 1) (by repeat (first | exact Sub.nil _ | refine Sub.cons rfl ?_)) ⟨Below.trans hx hb2, ?_, by omega⟩ (by omega)
      rw [set_mid _ _ _ _ htl] at hf2
      rw [htk, List.map_append]
      exact hf2
    · rw [decide_eq_false hup]
      have hlc : lowB c = c := by unfold lowB; rw [if_neg hup]
      refine rn ?_
      refine sAd tb (r := ((i + 1 : Nat) : Int)) ?_
      refine rn ?_
      refine G.lp (x := i) (i + 1) (by repeat (first | exact Sub.nil _ | refine Sub.cons rfl ?_)) ⟨hx, ?_, by omega⟩ (by omega)
      rw [htk, List.map_append, List.map_cons, List.map_nil, hlc, List.append_assoc]
      exact hf
  · have hie : i = s.length := by omega
    subst hie
    rw [List.take_length, List.drop_length, List.append_nil] at hf hby
    refine rn ?_
    refine sByS tb hby ?_
    refine rn ?_
    refine G.ret1 rfl rfl rfl rfl ?_
    exact ⟨rfl, hx⟩
end Go.Proofs.YtlaingmhdgpkdaaGreatDoor.Num
end
section
open Go Go.Vg Go.RowKit Go.Proofs Go.Proofs.YtlaingmhdgpkdaaGreatDoor
namespace Go.Proofs.YtlaingmhdgpkdaaGreatDoor.Num
open Go.Nm

theorem sig_facts (s : List UInt8) :
    (decide ((0 : Int) < ((s.length : Nat) : Int)) && (decide (((s.getD 0 0).toNat : Int) = 43) || decide (((s.getD 0 0).toNat : Int) = 45))) = signed s ∧
    (signed s = true → decide (((s.getD 0 0).toNat : Int) = 45) = minus s ∧ 0 < s.length) ∧ (signed s = false → minus s = false) ∧ (unsign s).length ≤ s.length := by
  refine ⟨?_, ?_, ?_, ?_⟩
  · cases s with
    | nil => rfl
    | cons d l =>
      unfold signed
      rw [Bool.eq_iff_iff, List.getD_cons_zero]
      simp only [List.head?_cons, Bool.and_eq_true, Bool.or_eq_true, beq_iff_eq, decide_eq_true_eq, Option.some.injEq, List.length_cons]
      rw [← UInt8.toNat_inj, ← UInt8.toNat_inj]
      show (_ ∧ (_ ∨ _)) ↔ (d.toNat = 43 ∨ d.toNat = 45)
      omega
  · cases s with
    | nil => intro h; cases h
    | cons d l =>
      intro _
      refine ⟨?_, by simp⟩
      unfold minus
      rw [Bool.eq_iff_iff, List.getD_cons_zero]
      simp only [List.head?_cons, beq_iff_eq, decide_eq_true_eq, Option.some.injEq]
      rw [← UInt8.toNat_inj]
      show _ ↔ d.toNat = 45
      omega
  · unfold signed minus
    simp only [Bool.or_eq_false_iff]
    exact fun h => h.2
  · unfold unsign
    split
    · rw [List.length_drop]; omega
    · exact Nat.le_refl _
theorem refE_bd (l : List UInt8) : ∀ i, (∀ j, j < i → isD (l.getD j 0) = true) → refE l i ≤ 10000009
  | 0, _ => by rw [refE]; exact Nat.zero_le _
  | i + 1, h => by
    have hc := h i (by omega)
    simp only [isD, Bool.and_eq_true, decide_eq_true_eq] at hc
    rw [refE]
    split
    · omega
    · exact refE_bd l i fun j hj => h j (by omega)
/-- what exponent tells -/
def ExpR (s : List UInt8) (r : Value) : Prop := match expP s with
  | none => ∃ x : Int, r = .tuple ⟨[.int .i64 x, .bool false]⟩
  | some (ng, l) => r = .tuple ⟨[.int .i64 ((if ng then -1 else 1) * ((refE l l.length : Nat) : Int)), .bool true]⟩
set_option maxHeartbeats 2000000 in
theorem exponentR_ok (c : UInt8) (s : List UInt8) (w : World) (hs : (c :: s).length ≤ 1000) : Ret Tryz.prog 76 ⟨[S (c :: s)]⟩ w fun r w' => ExpR (c :: s) r ∧ Ext w w' := by
  unfold ExpR
  obtain ⟨n, hn⟩ : ∃ n, n = (c :: s).length := ⟨_, rfl⟩
  have hn1 : n = s.length + 1 := by rw [hn]; rfl
  rw [← hn] at hs
  refine ret_of_G Tryz.func76 rfl Tryz.ntmps76 rfl ?_
  simp only [argEnv]
  refine rn ?_
  refine sBs tb 0 ?_ (hj := fun _ => ⟨rfl, by rw [← hn]; omega⟩)
  rw [List.getD_cons_zero]
  refine rn ?_
  refine sBs tb 0 ?_ (hj := fun _ => ⟨rfl, by rw [← hn]; omega⟩)
  rw [List.getD_cons_zero]
  refine rn ?_
  have hbe : (!decide (((c.toNat : Nat) : Int) = 101) && !decide (((c.toNat : Nat) : Int) = 69)) = decide (¬ (c.toNat = 101 ∨ c.toNat = 69)) := by
    rw [Bool.eq_iff_iff]
    simp only [Bool.and_eq_true, Bool.not_eq_true', decide_eq_false_iff_not, decide_eq_true_eq]
    omega
  rw [hbe]
  by_cases hce : c.toNat = 101 ∨ c.toNat = 69
  rotate_left
  · have he : expP (c :: s) = none := by
      unfold expP
      rw [if_neg]
      rintro (h | h) <;> (injection h with h; subst h; exact hce (by decide))
    rw [he]
    rw [decide_eq_true hce]
    refine rn ?_
    refine G.ret2 rfl rfl rfl rfl rfl ?_
    exact ⟨⟨0, rfl⟩, Ext.refl _⟩
  have he : expP (c :: s) = if unsign s = [] ∨ runD (unsign s) ≠ (unsign s).length then none else some (minus s, unsign s) := by
    unfold expP
    rw [if_pos (hce.imp (fun h => by rw [UInt8.toNat_inj (b := 101) |>.1 h]; rfl) (fun h => by rw [UInt8.toNat_inj (b := 69) |>.1 h]; rfl))]
    rfl
  rw [decide_eq_false (p := ¬ (c.toNat = 101 ∨ c.toNat = 69)) (fun h => h hce)]
  generalize expP (c :: s) = eP at he
  refine rn ?_
  refine GL.cons (Step.sliceSl tb 1 rfl (Op1.of rfl (by first | exact fun _ => rfl | exact fun h => h | exact fun h => bL h | exact fun h => bL (bL h) | exact fun h => bL (bL (bL h)))) (Op1.of rfl (by first | exact fun _ => rfl | exact fun h => h | exact fun h => bL h | exact fun h => bL (bL h) | exact fun h => bL (bL (bL h)))) rfl (fun _ => ⟨rfl, by rw [← hn]; omega⟩) rfl ?_)
  rw [show (c :: s).drop 1 = s from rfl]
  obtain ⟨f1, f2, f3, f4⟩ := sig_facts s
  have hsl : s.length ≤ 1000 := by omega
  clear hbe hn1 hn hs
  refine rn ?_
  refine sBs tb 0 ?_ (hj := by intro h; exact ⟨rfl, by have h : decide ((0 : Int) < ((s.length : Nat) : Int)) = true := h; have := of_decide_eq_true h; omega⟩)
  refine rn ?_
  refine sBs tb 0 ?_ (hj := by intro h; exact ⟨rfl, by have h : (decide ((0 : Int) < ((s.length : Nat) : Int)) && _) = true := h; have := of_decide_eq_true (Bool.and_eq_true_iff.1 h).1; omega⟩)
  refine rn ?_
  rw [f1]
  refine G.join (fun _ : Unit => [(0, none, S (unsign s)), (4, none, .bool (minus s))]) (fun _ W' => W' = w) ?_ ?_
  rotate_left
  · unfold unsign
    cases hs1 : signed s
    · rw [f3 hs1, if_neg (by simp)]
      refine rn ?_
      exact G.met () (by repeat (first | exact Sub.nil _ | refine Sub.cons rfl ?_)) rfl
    · rw [if_pos rfl]
      obtain ⟨g1, g2⟩ := f2 hs1
      refine rn ?_
      refine sBs tb 0 ?_ (hj := fun _ => ⟨rfl, g2⟩)
      refine rn ?_
      rw [g1]
      refine GL.cons (Step.sliceSl tb 1 rfl (Op1.of rfl (by first | exact fun _ => rfl | exact fun h => h | exact fun h => bL h | exact fun h => bL (bL h) | exact fun h => bL (bL (bL h)))) (Op1.of rfl (by first | exact fun _ => rfl | exact fun h => h | exact fun h => bL h | exact fun h => bL (bL h) | exact fun h => bL (bL (bL h)))) rfl (fun _ => ⟨rfl, g2⟩) rfl ?_)
      refine rn ?_
      exact G.met () (by repeat (first | exact Sub.nil _ | refine Sub.cons rfl ?_)) rfl
  rintro _ w rfl
  clear f1 f2 f3 hce
  generalize unsign s = u at he f4 ⊢
  generalize minus s = neg at he ⊢
  refine rn ?_
  refine (G.loop (fun i : Nat => [(0, none, S u), (4, none, .bool neg), (5, none, .int .i64 (refE u i : Nat)), (6, none, .int .i64 i)]) (fun i W => Ext w W ∧ i ≤ u.length ∧ ∀ j, j < i → isD (u.getD j 0) = true) (fun i => u.length - i) 0 (by repeat (first | exact Sub.nil _ | refine Sub.cons rfl ?_)) ⟨Ext.refl _, Nat.zero_le _, fun j hj => by omega⟩ ?_)
  rintro i W ⟨hx, hi, hd⟩
  have hrb := refE_bd u i hd
  refine rn ?_
  first | refine G.condD rfl (fun hc => ?_) (fun hc => ?_) | refine G.condN rfl (fun hc => ?_) (fun hc => ?_) | refine G.cond rfl (fun hc => ?_) (fun hc => ?_)
  · have hlt : i < u.length := by omega
    refine rn ?_
    refine sBs tb i ?_ (hj := fun _ => ⟨rfl, hlt⟩)
    refine sCall c74 (digitR_ok (u.getD i 0) W) ?_
    rintro _ W2 ⟨rfl, hx2⟩
    refine rn ?_
    cases hdi : isD (u.getD i 0)
    · have hr : runD u ≠ u.length := fun h => by
        have := runD_dig (l := u) (i := i) (by omega)
        rw [hdi] at this; cases this
      rw [if_pos (.inr hr)] at he
      subst he
      refine rn ?_
      refine G.ret2 rfl rfl rfl rfl rfl ?_
      exact ⟨⟨0, rfl⟩, hx.trans hx2⟩
    have hd2 : ∀ j, j < i + 1 → isD (u.getD j 0) = true := fun j hj => by
      by_cases hji : j = i
      · rw [hji]; exact hdi
      · exact hd j (by omega)
    have hst : refE u (i + 1) = if refE u i < 1000000 then 10 * refE u i + ((u.getD i 0).toNat - 48) else refE u i := rfl
    have hc : 48 ≤ (u.getD i 0).toNat ∧ (u.getD i 0).toNat ≤ 57 := by simpa [isD] using hdi
    obtain ⟨d, hgd⟩ : ∃ d, u.getD i 0 = d := ⟨_, rfl⟩
    rw [hgd] at hst hc
    (first | refine gl tb ?_ | refine gg tb ?_ | refine ll tb ?_ | refine lg tb ?_)
    refine G.condF rfl ?_
    (first | refine gl tb ?_ | refine gg tb ?_ | refine ll tb ?_ | refine lg tb ?_)
    refine G.join (fun _ : Unit => [(0, none, S u), (4, none, .bool neg), (5, none, .int .i64 (refE u (i + 1) : Nat)), (6, none, .int .i64 i)]) (fun _ W' => W' = W2) ?_ ?_
    rotate_left
    · by_cases hbig : refE u i < 1000000
      · rw [decide_eq_true (p := ((refE u i : Nat) : Int) < 1000000) (by omega)]
        rw [if_pos hbig] at hst
        refine rn ?_
        refine sAd tb (r := ((10 * refE u i : Nat) : Int)) ?_ (hp := (wrap_i64 (n := 10 * ((refE u i : Nat) : Int)) (by omega) (by omega)).trans (by omega))
        refine rn ?_
        refine sBs tb i ?_ (hj := fun _ => ⟨rfl, hlt⟩)
        rw [hgd]
        refine GL.cons (Step.arith (k := .u8) (a := (d.toNat : Int)) (b := 48) (r := ((d.toNat - 48 : Nat) : Int)) rfl (Op1.of rfl (by first | exact fun _ => rfl | exact fun h => h | exact fun h => bL h | exact fun h => bL (bL h) | exact fun h => bL (bL (bL h)))) (Op1.of rfl (by first | exact fun _ => rfl | exact fun h => h | exact fun h => bL h | exact fun h => bL (bL h) | exact fun h => bL (bL (bL h)))) ((Go.Vg.wrap_u8 _).trans (by omega)) rfl ?_)
        refine rn ?_
        refine sCv tb (r := ((d.toNat - 48 : Nat) : Int)) ?_
        refine sAd tb (r := ((refE u (i + 1) : Nat) : Int)) ?_ (hp := (wrap_i64 (n := ((10 * refE u i : Nat) : Int) + ((d.toNat - 48 : Nat) : Int)) (by omega) (by omega)).trans (by omega))
        refine rn ?_
        exact G.met () (by repeat (first | exact Sub.nil _ | refine Sub.cons rfl ?_)) rfl
      · rw [decide_eq_false (p := ((refE u i : Nat) : Int) < 1000000) (by omega)]
        rw [if_neg hbig] at hst
        rw [hst]
        refine rn ?_
        exact G.met () (by repeat (first | exact Sub.nil _ | refine Sub.cons rfl ?_)) rfl
    rintro _ W2 rfl
    refine rn ?_
    refine sAd tb (r := ((i + 1 : Nat) : Int)) ?_
    refine rn ?_
    exact G.lp (x := i) (i + 1) (by repeat (first | exact Sub.nil _ | refine Sub.cons rfl ?_)) ⟨hx.trans hx2, by omega, hd2⟩ (by omega)
  · have hie : i = u.length := by omega
    have hr : runD u = u.length := runD_eq (Nat.le_refl _) (fun j hj => hd j (by omega)) (.inl rfl)
    rw [hie] at hrb
    rw [hie]
    refine rn ?_
    refine G.join (fun _ : Unit => [(0, none, S u), (5, none, .int .i64 ((if neg then -1 else 1) * ((refE u u.length : Nat) : Int)))]) (fun _ W' => W' = W) ?_ ?_
    rotate_left
    · cases neg
      · rw [if_neg (by simp), Int.one_mul]
        refine rn ?_
        exact G.met () (by repeat (first | exact Sub.nil _ | refine Sub.cons rfl ?_)) rfl
      · rw [if_pos rfl]
        refine rn ?_
        refine sNeg ?_ (hr := wrap_i64 (by omega) (by omega))
        rw [show 0 - ((refE u u.length : Nat) : Int) = -1 * ((refE u u.length : Nat) : Int) by omega]
        refine rn ?_
        exact G.met () (by repeat (first | exact Sub.nil _ | refine Sub.cons rfl ?_)) rfl
    rintro _ W rfl
    by_cases h0 : u = []
    · rw [if_pos (.inl h0)] at he
      subst he
      subst h0
      refine rn ?_
      refine G.ret2 rfl rfl rfl rfl rfl ?_
      exact ⟨⟨_, rfl⟩, hx⟩
    · rw [if_neg (by rintro (h | h); exact h0 h; exact h hr)] at he
      subst he
      have hpos := List.length_pos_iff.2 h0
      refine rn ?_
      rw [decide_eq_true (p := (0 : Int) < ((u.length : Nat) : Int)) (by omega)]
      refine rn ?_
      refine G.ret2 rfl rfl rfl rfl rfl ?_
      exact ⟨rfl, hx⟩
end Go.Proofs.YtlaingmhdgpkdaaGreatDoor.Num
end
section
namespace Go.Vg
variable {X : Cx} {k k' : List Kt} {ops ops' : Array Oper} {l l' : List Oper} {e e' : Env} {w : World} {L : List Prop}
theorem lgN (T : Tb X.P) (f : Nat) (h : G X k' e' w) (hr : goK T X.n f (.r ops l k) e [] = .done (.g k') e' L := by exact rfl)
    (hL : AllP L := by repeat (first | exact trivial | refine And.intro (by first | exact fun _ => rfl | exact fun h => h | exact fun h => bL h | exact fun h => bL (bL h) | exact fun h => bL (bL (bL h)) | exact fun _ _ => rfl | exact fun _ h => h | exact fun _ h => bNot h | exact fun h k => bAnd h k | exact fun h k => bAnd h (bNot k)) ?_)) : GL X ops l k e w := (goK_ok T f (.r ops l k) e [] hr hL h).2
end Go.Vg
end
section
open Go Go.Vg Go.RowKit Go.Proofs Go.Proofs.YtlaingmhdgpkdaaGreatDoor
namespace Go.Proofs.YtlaingmhdgpkdaaGreatDoor.Num
open Go.Nm

theorem trimZ_snoc : ∀ (l : List UInt8) (c : UInt8), trimZ (l ++ [c]) = if trimZ l = [] then trimZ [c] else trimZ l ++ [c]
  | [], c => by rw [if_pos (by rfl)]; rfl
  | d :: l, c => by
    rw [List.cons_append, trimZ, trimZ]
    by_cases h : d = 48
    · rw [if_pos h, if_pos h]
      exact trimZ_snoc l c
    · rw [if_neg h, if_neg h, if_neg (by simp), List.cons_append]
theorem allD_nil : allD [] := fun c hc => by cases hc
theorem allD_app {l : List UInt8} {c : UInt8} (h : allD l) (hc : 48 ≤ c.toNat ∧ c.toNat ≤ 57) : allD (l ++ [c]) := fun d hd => by
  rcases List.mem_append.1 hd with hd | hd
  · exact h d hd
  · rw [List.mem_singleton.1 hd]; exact hc
theorem numZ {l : List UInt8} (h : allD l) : numL l 0 = 0 ↔ trimZ l = [] := by
  constructor
  · intro h0
    apply Decidable.byContradiction
    intro hne
    have h1 := trim_pos h hne
    rw [numL_trim, h0] at h1
    have := Nat.pow_pos (show 0 < 10 by decide) (n := (trimZ l).length - 1)
    omega
  · intro h0
    rw [← numL_trim, h0]; rfl
theorem cnt_snoc {l : List UInt8} {c : UInt8} (h : allD l) (hc : 48 ≤ c.toNat ∧ c.toNat ≤ 57) :
    (numL (l ++ [c]) 0 = 0 → (trimZ l).length = 0 ∧ (trimZ (l ++ [c])).length = 0) ∧ (numL (l ++ [c]) 0 ≠ 0 → (trimZ (l ++ [c])).length = (trimZ l).length + 1) := by
  have hz := numZ (allD_app h hc)
  have hs := trimZ_snoc l c
  constructor
  · intro h0
    have h1 := hz.1 h0
    rw [h1] at hs ⊢
    by_cases h2 : trimZ l = []
    · rw [h2]; exact ⟨rfl, rfl⟩
    · rw [if_neg h2] at hs
      simp at hs
  · intro h0
    have h1 : trimZ (l ++ [c]) ≠ [] := fun h => h0 (hz.2 h)
    rw [hs] at h1 ⊢
    by_cases h2 : trimZ l = []
    · rw [if_pos h2] at h1 ⊢
      rw [h2]
      rw [trimZ] at h1 ⊢
      by_cases h3 : c = 48
      · rw [if_pos h3] at h1; exact absurd rfl h1
      · rw [if_neg h3]; rfl
    · rw [if_neg h2, List.length_append]; rfl
theorem splitP_no {u : List UInt8} (h : ¬ (u.drop (runD u)).head? = some 46) : splitP u = (u.take (runD u), 0, u.drop (runD u)) := by
  unfold splitP; rw [if_neg h]
theorem splitP_dot {u : List UInt8} (h : (u.drop (runD u)).head? = some 46) {j : Nat} (hj : runD (u.drop (runD u + 1)) = j) : splitP u = (u.take (runD u) ++ (u.drop (runD u + 1)).take j, j, u.drop (runD u + 1 + j)) := by
  unfold splitP
  rw [if_pos h, List.drop_drop, hj, List.drop_drop]
theorem head_get {u : List UInt8} {r : Nat} : (decide ((r : Int) < ((u.length : Nat) : Int)) && decide (((u.getD r 0).toNat : Int) = 46)) = decide ((u.drop r).head? = some 46) := by
  rw [Bool.eq_iff_iff]
  simp only [Bool.and_eq_true, decide_eq_true_eq]
  by_cases hlt : r < u.length
  · rw [List.drop_eq_getElem_cons hlt, List.head?_cons, List.getD_eq_getElem?_getD, List.getElem?_eq_getElem hlt]
    simp only [Option.getD_some, Option.some.injEq]
    rw [← UInt8.toNat_inj]
    show _ ↔ u[r].toNat = 46
    omega
  · rw [List.drop_eq_nil_of_le (by omega)]
    simp
    omega

/-- a row of digits apart from the box b -/
structure RtO (w : World) (b : Nat) (v : Value) (l : List Nat) : Prop where
  ow : Owns w (b + 1) v 3 1 (l.map i64C)
  nr : Nrm 10000 l
theorem RtO.rt {w : World} {b : Nat} {v : Value} {l : List Nat} (h : RtO w b v l) : Rt w v l := ⟨h.ow.sli, h.nr⟩
theorem RtO.to {w w' : World} {b : Nat} {v : Value} {l : List Nat} (h : RtO w b v l) (hx : Ext w w') : RtO w' b v l := ⟨h.ow.to hx, h.nr⟩
theorem RtO.wr {w w' : World} {b : Nat} {v : Value} {l : List Nat} (h : RtO w b v l) (hw : Wr b w w') : RtO w' b v l := ⟨h.ow.wr hw (Nat.lt_succ_self b), h.nr⟩
theorem RtO.nil (w : World) (b : Nat) : RtO w b (.slice none 0 0) [] := ⟨Owns.nil _ _ _ _, Nrm.nil _⟩
set_option maxHeartbeats 4000000 in
theorem parseR_ok (s : List UInt8) (w : World) (hs : s.length ≤ 9223372036854775807) : Ret Tryz.prog 44 ⟨[S s]⟩ w fun r w' => ParseR s r ∧ Ext w w' := by
  unfold ParseR
  refine ret_of_G Tryz.func44 rfl Tryz.ntmps44 rfl ?_
  simp only [argEnv]
  refine rn ?_
  by_cases h400 : 400 < s.length
  · rw [decide_eq_true (p := (400 : Int) < ((s.length : Nat) : Int)) (by omega)]
    have hP : parseP s = none := by unfold parseP; rw [if_pos h400]
    rw [hP]
    refine rn ?_
    refine G.ret2 rfl rfl rfl rfl rfl ?_
    exact ⟨rfl, Ext.refl _⟩
  rw [decide_eq_false (p := (400 : Int) < ((s.length : Nat) : Int)) (by omega)]
  have hP : parseP s = if (unsign s).map lowB = [110, 97, 110] then some nanB
      else if (unsign s).map lowB = [105, 110, 102] ∨ (unsign s).map lowB = [105, 110, 102, 105, 110, 105, 116, 121] then some (infB + sgn (minus s))
      else match readP (unsign s) with
        | none => none
        | some (ds, x) => some (progBits ds x + sgn (minus s)) := by unfold parseP; rw [if_neg h400]; rfl
  obtain ⟨f1, f2, f3, f4⟩ := sig_facts s
  refine rn ?_
  refine sBs tb 0 ?_ (hj := by intro h; exact ⟨rfl, by have h : decide ((0 : Int) < ((s.length : Nat) : Int)) = true := h; have := of_decide_eq_true h; omega⟩)
  refine rn ?_
  refine sBs tb 0 ?_ (hj := by intro h; exact ⟨rfl, by have h : (decide ((0 : Int) < ((s.length : Nat) : Int)) && _) = true := h; have := of_decide_eq_true (Bool.and_eq_true_iff.1 h).1; omega⟩)
  refine rn ?_
  rw [f1]
  refine G.join (fun _ : Unit => [(0, none, S (unsign s)), (4, none, .bool (minus s))]) (fun _ W' => W' = w) ?_ ?_
  rotate_left
  · unfold unsign
    cases hs1 : signed s
    · rw [f3 hs1, if_neg (by simp)]
      refine rn ?_
      exact G.met () (by repeat (first | exact Sub.nil _ | refine Sub.cons rfl ?_)) rfl
    · rw [if_pos rfl]
      obtain ⟨g1, g2⟩ := f2 hs1
      refine rn ?_
      refine sBs tb 0 ?_ (hj := fun _ => ⟨rfl, g2⟩)
      refine rn ?_
      rw [g1]
      refine GL.cons (Step.sliceSl tb 1 rfl (Op1.of rfl (by first | exact fun _ => rfl | exact fun h => h | exact fun h => bL h | exact fun h => bL (bL h) | exact fun h => bL (bL (bL h)))) (Op1.of rfl (by first | exact fun _ => rfl | exact fun h => h | exact fun h => bL h | exact fun h => bL (bL h) | exact fun h => bL (bL (bL h)))) rfl (fun _ => ⟨rfl, g2⟩) rfl ?_)
      refine rn ?_
      exact G.met () (by repeat (first | exact Sub.nil _ | refine Sub.cons rfl ?_)) rfl
  rintro _ w rfl
  clear f1 f2 f3
  generalize unsign s = u at hP f4 ⊢
  generalize minus s = neg at hP ⊢
  refine rn ?_
  refine sCall c71 (lowerR_ok u w (by omega)) ?_
  rintro _ W1 ⟨rfl, hx1⟩
  refine rn ?_
  by_cases h1 : u.map lowB = [110, 97, 110]
  · rw [decide_eq_true h1]
    rw [if_pos h1] at hP
    rw [hP]
    refine rn ?_
    refine sCall c72 (nanR_ok W1) ?_
    rintro _ W2 ⟨rfl, hx2⟩
    refine rn ?_
    refine G.ret2 rfl rfl rfl rfl rfl ?_
    exact ⟨rfl, hx1.trans hx2⟩
  rw [if_neg h1] at hP
  rw [decide_eq_false h1]
  refine rn ?_
  rw [show (decide (u.map lowB = [105, 110, 102]) || decide (u.map lowB = [105, 110, 102, 105, 110, 105, 116, 121])) = decide (u.map lowB = [105, 110, 102] ∨ u.map lowB = [105, 110, 102, 105, 110, 105, 116, 121]) by simp [Bool.decide_or]]
  by_cases h2 : u.map lowB = [105, 110, 102] ∨ u.map lowB = [105, 110, 102, 105, 110, 105, 116, 121]
  · rw [decide_eq_true h2]
    rw [if_pos h2] at hP
    rw [hP]
    refine rn ?_
    rw [show (9218868437227405312 : Int) = ((infB : Nat) : Int) by decide]
    refine sCall c73 (signedR_ok infB neg W1 (by decide)) ?_
    rintro _ W2 ⟨rfl, hx2⟩
    refine rn ?_
    refine G.ret2 rfl rfl rfl rfl rfl ?_
    exact ⟨rfl, hx1.trans hx2⟩
  rw [decide_eq_false h2]
  rw [if_neg h2] at hP
  refine G.condF rfl ?_
  refine rn ?_
  refine sAl tb (us := [.slice none 0 0, .int .i64 0]) (fun W2 hb hs2 hx2 => ?_)
  refine lgN tb 10 ?_
  have hW : w.heap.size ≤ W1.heap.size := hx1.size
  have hx12 := hx1.trans hx2
  clear hx2 hs2
  refine G.join (fun y : Nat × Value × List UInt8 × Nat => [(0, none, S u), (4, none, .bool neg), (6, none, .int .i64 y.1), (7, none, .bool (!decide (y.2.2.1 = []))), (8, none, ptr W1.heap.size), (9, none, .int .i64 ((trimZ y.2.2.1).length : Nat))])
    (fun y W => Ext w W ∧ Bx W W1.heap.size [y.2.1, .int .i64 (-(y.2.2.2 : Nat))] ∧ (∃ l, RtO W W1.heap.size y.2.1 l ∧ vL 10000 l = numL y.2.2.1 0 ∧ l.length ≤ 20 * y.2.2.1.length) ∧ allD y.2.2.1 ∧ y.2.2.1.length ≤ y.1 ∧ y.1 ≤ u.length ∧ splitP u = (y.2.2.1, y.2.2.2, u.drop y.1)) ?_ ?_
  rotate_left
  · refine rn ?_
    refine (G.loop (fun y : Nat × Nat × Value × List UInt8 × Nat => [(0, none, S u), (4, none, .bool neg), (6, none, .int .i64 y.2.1), (7, none, .bool (!decide (y.2.2.2.1 = []))), (8, none, ptr W1.heap.size), (9, none, .int .i64 ((trimZ y.2.2.2.1).length : Nat)), (10, none, .int .i64 y.1)])
      (fun y W => Ext w W ∧ Bx W W1.heap.size [y.2.2.1, .int .i64 (-(y.2.2.2.2 : Nat))] ∧ (∃ l, RtO W W1.heap.size y.2.2.1 l ∧ vL 10000 l = numL y.2.2.2.1 0 ∧ l.length ≤ 20 * y.2.2.2.1.length) ∧ allD y.2.2.2.1 ∧ y.2.2.2.1.length ≤ y.2.1 ∧ y.2.1 ≤ u.length ∧
        ((y.1 = 0 ∧ y.2.1 = 0 ∧ y.2.2.2.1 = [] ∧ y.2.2.2.2 = 0) ∨ (y.1 = 1 ∧ y.2.1 = runD u + 1 ∧ y.2.2.2.1 = u.take (runD u) ∧ y.2.2.2.2 = 0 ∧ (u.drop (runD u)).head? = some 46) ∨ (y.1 = 2 ∧ splitP u = (y.2.2.2.1, y.2.2.2.2, u.drop y.2.1)))) (fun y => 2 - y.1) (0, 0, .slice none 0 0, [], 0) (by repeat (first | exact Sub.nil _ | refine Sub.cons rfl ?_))
      ⟨hx12, hb, ⟨[], RtO.nil _ _, rfl, Nat.le_refl _⟩, allD_nil, Nat.le_refl _, Nat.zero_le _, .inl ⟨rfl, rfl, rfl, rfl⟩⟩ ?_)
    clear hb hx12
    rintro ⟨p, i0, v0, dl, kk⟩ W ⟨hx, hb, hrt, hdl, hdi, hi0, hst⟩
    simp only at hb hrt hdl hdi hi0 hst
    show G _ _ [(0, none, S u), (4, none, .bool neg), (6, none, .int .i64 i0), (7, none, .bool (!decide (dl = []))), (8, none, ptr W1.heap.size), (9, none, .int .i64 ((trimZ dl).length : Nat)), (10, none, .int .i64 p)] _
    refine rn ?_
    by_cases hp2 : p < 2
    rotate_left
    · rw [decide_eq_false (p := ((p : Nat) : Int) < 2) (by omega)]
      obtain ⟨hp, hsp⟩ := (hst.resolve_left (by omega)).resolve_left (by omega)
      refine rn ?_
      exact G.met (i0, v0, dl, kk) (by repeat (first | exact Sub.nil _ | refine Sub.cons rfl ?_)) ⟨hx, hb, hrt, hdl, hdi, hi0, hsp⟩
    rw [decide_eq_true (p := ((p : Nat) : Int) < 2) (by omega)]
    have hkk : kk = 0 := by omega
    subst hkk
    refine rn ?_
    obtain ⟨t, ht⟩ : ∃ t, t = u.drop i0 := ⟨_, rfl⟩
    have htl : t.length = u.length - i0 := by rw [ht, List.length_drop]
    have htg : ∀ j, u.getD (i0 + j) 0 = t.getD j 0 := fun j => by
      rw [ht, List.getD_eq_getElem?_getD, List.getD_eq_getElem?_getD, List.getElem?_drop]
    refine (G.loop (fun y : Nat × Value => [(0, none, S u), (4, none, .bool neg), (6, none, .int .i64 ((i0 + y.1 : Nat) : Int)), (7, none, .bool (!decide (dl ++ t.take y.1 = []))), (8, none, ptr W1.heap.size), (9, none, .int .i64 ((trimZ (dl ++ t.take y.1)).length : Nat)), (10, none, .int .i64 p)])
      (fun y W => Ext w W ∧ Bx W W1.heap.size [y.2, .int .i64 (-((if p = 1 then y.1 else 0 : Nat) : Int))] ∧ (∃ l, RtO W W1.heap.size y.2 l ∧ vL 10000 l = numL (dl ++ t.take y.1) 0 ∧ l.length ≤ 20 * (dl ++ t.take y.1).length) ∧ allD (dl ++ t.take y.1) ∧ y.1 ≤ t.length ∧ ∀ j, j < y.1 → isD (t.getD j 0) = true) (fun y => t.length - y.1) (0, v0) ?_
      ⟨hx, by simpa using hb, by simpa using hrt, by simpa using hdl, Nat.zero_le _, fun j hj => by simp only at hj; omega⟩ ?_)
    · simp only [List.take_zero, List.append_nil]
      exact (by repeat (first | exact Sub.nil _ | refine Sub.cons rfl ?_))
    clear hx hb hrt
    rintro ⟨j, v⟩ W ⟨hx, hb, ⟨l, hl, hlv, hll⟩, hda, hj, hdj⟩
    simp only at hb hl hlv hll hda hj hdj
    show G _ _ [(0, none, S u), (4, none, .bool neg), (6, none, .int .i64 ((i0 + j : Nat) : Int)), (7, none, .bool (!decide (dl ++ t.take j = []))), (8, none, ptr W1.heap.size), (9, none, .int .i64 ((trimZ (dl ++ t.take j)).length : Nat)), (10, none, .int .i64 p)] _
    have hgj := htg j
    have hdlen : (dl ++ t.take j).length ≤ u.length := by rw [List.length_append, List.length_take]; omega
    have htz := trimZ_len (dl ++ t.take j)
    refine rn ?_
    refine sBs tb (i0 + j) ?_ (hj := by intro h; exact ⟨rfl, by have h : decide (((i0 + j : Nat) : Int) < ((u.length : Nat) : Int)) = true := h; have := of_decide_eq_true h; omega⟩)
    rw [hgj]
    refine GL.cons (Step.callX rfl rfl (by repeat (first | exact OpL.nil | refine OpL.cons (Op1.of rfl (by first | exact fun _ => rfl | exact fun h => h | exact fun h => bL h | exact fun h => bL (bL h) | exact fun h => bL (bL (bL h)))) ?_)) c74 rfl (fun hc => digitR_ok (t.getD j 0) W) ?_)
    intro W3 hx3
    have hx := hx.trans hx3
    have hb := hb.to hx3
    have hl := hl.to hx3
    clear hx3
    refine rn ?_
    by_cases hgo : j < t.length ∧ isD (t.getD j 0) = true
    · obtain ⟨hjl, hdi⟩ := hgo
      rw [hdi, decide_eq_true (p := ((i0 + j : Nat) : Int) < ((u.length : Nat) : Int)) (by omega)]
      have htk : t.take (j + 1) = t.take j ++ [t.getD j 0] := take_snoc hjl
      have hc : 48 ≤ (t.getD j 0).toNat ∧ (t.getD j 0).toNat ≤ 57 := by simpa [isD] using hdi
      have hdj2 : ∀ i, i < j + 1 → isD (t.getD i 0) = true := fun i hi => by
        by_cases hji : i = j
        · rw [hji]; exact hdi
        · exact hdj i (by omega)
      have hcn := cnt_snoc hda hc
      have hdn := allD_app hda hc
      have hnm := numL_snoc (dl ++ t.take j) (t.getD j 0) 0
      have hap : dl ++ t.take (j + 1) = (dl ++ t.take j) ++ [t.getD j 0] := by rw [htk, List.append_assoc]
      rw [← hap] at hcn hdn hnm
      have hne : dl ++ t.take (j + 1) ≠ [] := by rw [hap]; simp
      have hnl : (dl ++ t.take (j + 1)).length = (dl ++ t.take j).length + 1 := by rw [hap, List.length_append]; rfl
      clear htk hap hdj hda hdi
      generalize t.getD j 0 = c at *
      generalize hd1e : dl ++ t.take j = d1 at *
      generalize hd2e : dl ++ t.take (j + 1) = d2 at *
      refine rn ?_
      refine G.regionZ 9 [(0, true), (1, true), (2, true), (3, true), (4, true), (5, true), (6, false), (7, false), (8, true)] (Ext W3) (by kernel_rfl) (by kernel_rfl) rfl mixed (Ext.drew W3) rfl rfl ?_
      refine rd ?_
      refine dBs tb (i0 + j) ?_ (hj := fun _ => ⟨rfl, by omega⟩)
      rw [hgj]
      refine GM.read (fun _ _ => Step.arith (k := .u8) (a := (c.toNat : Int)) (b := 48) (r := ((c.toNat - 48 : Nat) : Int)) rfl (Op1.of rfl (by first | exact fun _ => rfl | exact fun h => h | exact fun h => bL h | exact fun h => bL (bL h) | exact fun h => bL (bL (bL h)))) (Op1.of rfl (by first | exact fun _ => rfl | exact fun h => h | exact fun h => bL h | exact fun h => bL (bL h) | exact fun h => bL (bL (bL h)))) ((Go.Vg.wrap_u8 _).trans (by omega)) rfl ⟨rfl, rfl⟩) rfl rfl ?_
      refine rd ?_
      refine GM.eff (Step.convI tb (r := ((c.toNat - 48 : Nat) : Int)) rfl (Op1.of rfl (by first | exact fun _ => rfl | exact fun h => h | exact fun h => bL h | exact fun h => bL (bL h) | exact fun h => bL (bL (bL h)))) rfl rfl (wrap_i64 (by omega) (by omega)) rfl ⟨Ext.drew W3, ?_⟩)
      refine rd ?_
      refine GM.eff (Step.callF rfl rfl rfl c75 rfl (timesO_ok v l 10 (c.toNat - 48) _ (hl.to (Ext.drew W3)).rt (by omega) (by decide) (by decide) (by omega)) (fun v4 W4 hq => ?_))
      obtain ⟨⟨m, hmo, hmn, hmv, hml⟩, hx4⟩ := hq
      refine ⟨(Ext.drew W3).trans hx4, ?_⟩
      refine rd ?_
      refine GM.nil ?_
      have hb4 := hb.to ((Ext.drew W3).trans hx4)
      refine zSf tb (fun W5 hb5 hw5 => ?_)
      have hx5 : Ext w W5 := Below.wr (hx.trans ((Ext.drew W3).trans hx4)) hw5 hW
      have hb5 : Bx W5 W1.heap.size [v4, .int .i64 (-((if p = 1 then j else 0 : Nat) : Int))] := hb5
      have hbl : W1.heap.size < W3.drew.heap.size := hb.lt
      have hm5 : RtO W5 W1.heap.size v4 m := RtO.wr ⟨hmo.mono hbl, hmn⟩ hw5
      have hmv2 : vL 10000 m = numL d2 0 := by rw [hmv, hlv, hnm]; omega
      have hmz : m.length = 0 ↔ numL d2 0 = 0 := by rw [← hmv2]; exact ((hmn.zero (by decide)).trans List.length_eq_zero_iff.symm).symm
      have hms := hm5.ow.sli
      have hmll : (m.map i64C).length = m.length := List.length_map ..
      have hm20 : m.length ≤ 20 * d2.length := by omega
      clear hx4 hmo hmv hml hb4 hw5 hx hl hb
      refine rn ?_
      rw [hmll]
      refine rn ?_
      refine G.join (fun _ : Unit => [(0, none, S u), (4, none, .bool neg), (6, none, .int .i64 ((i0 + j : Nat) : Int)), (8, none, ptr W1.heap.size), (9, none, .int .i64 ((trimZ d2).length : Nat)), (10, none, .int .i64 p)]) (fun _ W' => W' = W5) ?_ ?_
      rotate_left
      · by_cases h0 : m.length = 0
        · obtain ⟨g1, g2⟩ := hcn.1 (hmz.1 h0)
          rw [decide_eq_false (p := (0 : Int) < ((m.length : Nat) : Int)) (by omega), g1]
          rw [g2]
          refine rn ?_
          exact G.met () (by repeat (first | exact Sub.nil _ | refine Sub.cons rfl ?_)) rfl
        · have g1 := hcn.2 (fun h => h0 (hmz.2 h))
          rw [decide_eq_true (p := (0 : Int) < ((m.length : Nat) : Int)) (by omega), g1]
          refine rn ?_
          refine sAd tb (r := (((trimZ d1).length + 1 : Nat) : Int)) ?_
          refine rn ?_
          exact G.met () (by repeat (first | exact Sub.nil _ | refine Sub.cons rfl ?_)) rfl
      rintro _ W5 rfl
      refine rn ?_
      refine G.join (fun _ : Unit => [(0, none, S u), (4, none, .bool neg), (6, none, .int .i64 ((i0 + j : Nat) : Int)), (8, none, ptr W1.heap.size), (9, none, .int .i64 ((trimZ d2).length : Nat)), (10, none, .int .i64 p)]) (fun _ W' => Ext w W' ∧ Bx W' W1.heap.size [v4, .int .i64 (-((if p = 1 then j + 1 else 0 : Nat) : Int))] ∧ RtO W' W1.heap.size v4 m) ?_ ?_
      rotate_left
      · by_cases hp1 : p = 1
        · rw [if_pos hp1] at hb5 ⊢
          rw [decide_eq_true (p := ((p : Nat) : Int) = 1) (by omega)]
          refine rn ?_
          refine sAd tb (r := -((j + 1 : Nat) : Int)) ?_ (hp := (wrap_i64 (n := -((j : Nat) : Int) - 1) (by omega) (by omega)).trans (by omega))
          refine rn ?_
          refine sSf tb (fun W6 hb6 hw6 => ?_)
          have hb6 : Bx W6 W1.heap.size [v4, .int .i64 (-((j + 1 : Nat) : Int))] := hb6
          refine rn ?_
          exact G.met () (by repeat (first | exact Sub.nil _ | refine Sub.cons rfl ?_)) ⟨Below.wr hx5 hw6 hW, hb6, hm5.wr hw6⟩
        · rw [if_neg hp1] at hb5 ⊢
          rw [decide_eq_false (p := ((p : Nat) : Int) = 1) (by omega)]
          refine rn ?_
          exact G.met () (by repeat (first | exact Sub.nil _ | refine Sub.cons rfl ?_)) ⟨hx5, hb5, hm5⟩
      clear hx5 hb5 hm5 hms
      rintro _ W6 ⟨hx6, hb6, hm6⟩
      refine rn ?_
      refine sAd tb (r := ((i0 + (j + 1) : Nat) : Int)) ?_ (hp := (wrap_i64 (n := ((i0 + j : Nat) : Int) + 1) (by omega) (by omega)).trans (by omega))
      refine rn ?_
      refine G.lp (x := (j, v)) (j + 1, v4) ?_ ⟨hx6, hb6, ?_, ?_, hjl, hdj2⟩ (by simp only; omega)
      · simp only [hd2e]
        rw [decide_eq_false hne]
        exact (by repeat (first | exact Sub.nil _ | refine Sub.cons rfl ?_))
      · simp only [hd2e]
        exact ⟨m, hm6, hmv2, hm20⟩
      · simp only [hd2e]
        exact hdn
    · rw [show (decide (((i0 + j : Nat) : Int) < ((u.length : Nat) : Int)) && isD (t.getD j 0)) = false by
        rw [Bool.and_eq_false_iff]
        by_cases h : j < t.length
        · right
          cases h2 : isD (t.getD j 0)
          · rfl
          · exact absurd ⟨h, h2⟩ hgo
        · left
          exact decide_eq_false (by omega)]
      have hrun : runD t = j := runD_eq hj hdj (by
        by_cases h : j < t.length
        · right
          cases h2 : isD (t.getD j 0)
          · rfl
          · exact absurd ⟨h, h2⟩ hgo
        · left; omega)
      have hil : i0 + j ≤ u.length := by omega
      have hdil : (dl ++ t.take j).length ≤ i0 + j := by rw [List.length_append, List.length_take]; omega
      refine rn ?_
      by_cases hp0 : p = 0
      · obtain ⟨_, rfl, rfl, _⟩ := hst.resolve_right (by omega)
        subst hp0
        rw [List.drop_zero] at ht
        subst ht
        subst hrun
        have hhg := head_get (u := t) (r := runD t)
        rw [Nat.zero_add] at hil hdil
        simp only [List.nil_append, Nat.zero_add] at hlv hll hda hdil ⊢
        rw [if_neg (by decide)] at hb
        refine rn ?_
        refine sBs tb (runD t) ?_ (hj := by intro h; exact ⟨rfl, by have h : decide (((runD t : Nat) : Int) < ((t.length : Nat) : Int)) = true := h; have := of_decide_eq_true h; omega⟩)
        refine rn ?_
        rw [hhg]
        by_cases hdot : (t.drop (runD t)).head? = some 46
        · rw [decide_eq_true hdot]
          have hlt : runD t < t.length := by
            apply Nat.lt_of_not_le
            intro h
            rw [List.drop_eq_nil_of_le h] at hdot
            simp at hdot
          refine rn ?_
          refine sAd tb (r := ((runD t + 1 : Nat) : Int)) ?_
          refine rn ?_
          refine sAd tb (r := ((1 : Nat) : Int)) ?_ (hp := rfl)
          refine rn ?_
          exact G.lp (x := (0, 0, v0, [], 0)) (1, runD t + 1, v, t.take (runD t), 0) (by repeat (first | exact Sub.nil _ | refine Sub.cons rfl ?_)) ⟨hx, hb, ⟨l, hl, hlv, hll⟩, hda, by simp only; omega, hlt, .inr (.inl ⟨rfl, rfl, rfl, rfl, hdot⟩)⟩ (by simp only; omega)
        · rw [decide_eq_false hdot]
          refine rn ?_
          exact G.met (runD t, v, t.take (runD t), 0) (by repeat (first | exact Sub.nil _ | refine Sub.cons rfl ?_)) ⟨hx, hb, ⟨l, hl, hlv, hll⟩, hda, hdil, hil, splitP_no hdot⟩
      · obtain ⟨_, rfl, hdle, _, hdot⟩ := (hst.resolve_left (by omega)).resolve_right (by omega)
        have hp1 : p = 1 := by omega
        subst hp1
        rw [if_pos rfl] at hb
        rw [decide_eq_false (p := ((1 : Nat) : Int) = 0) (by decide)]
        refine rn ?_
        refine sAd tb (r := ((2 : Nat) : Int)) ?_ (hp := rfl)
        refine rn ?_
        rw [hdle] at hlv hll hda hdil ⊢
        refine G.lp (x := (1, runD u + 1, v0, dl, 0)) (2, runD u + 1 + j, v, u.take (runD u) ++ t.take j, j) ?_ ⟨hx, hb, ⟨l, hl, hlv, hll⟩, hda, hdil, hil, .inr (.inr ⟨rfl, ?_⟩)⟩ (by simp only; omega)
        · exact (by repeat (first | exact Sub.nil _ | refine Sub.cons rfl ?_))
        · simp only
          rw [ht] at hrun ⊢
          exact splitP_dot hdot hrun
  clear hb hx12
  rintro ⟨i, v, dl, kk⟩ W ⟨hx, hb, ⟨l, hl, hlv, hll⟩, hda, hdi, hi, hsp⟩
  simp only at hb hl hlv hll hda hdi hi hsp
  show G _ _ [(0, none, S u), (4, none, .bool neg), (6, none, .int .i64 i), (7, none, .bool (!decide (dl = []))), (8, none, ptr W1.heap.size), (9, none, .int .i64 ((trimZ dl).length : Nat))] _
  obtain ⟨rest, hrest⟩ : ∃ r, r = u.drop i := ⟨_, rfl⟩
  have hrl : rest.length = u.length - i := by rw [hrest, List.length_drop]
  have hkk : kk ≤ dl.length := by have := (split_len u).2; rw [hsp] at this; exact this
  rw [← hrest] at hsp
  have hrp : readP u = if dl = [] then none else if rest = [] then some (trimZ dl, -(kk : Int)) else match expP rest with
    | none => none
    | some (ng, l) => some (trimZ dl, -(kk : Int) + (if ng then -1 else 1) * ((min (numL l 0) 100000 : Nat) : Int)) := by
    unfold readP; rw [hsp]; rfl
  rw [hrp] at hP
  clear hrp hsp
  have htz := trimZ_len dl
  refine rn ?_
  by_cases hd0 : dl = []
  · rw [if_pos hd0] at hP
    have hP : parseP s = none := hP
    rw [hP, decide_eq_true hd0]
    refine rn ?_
    refine G.ret2 rfl rfl rfl rfl rfl ?_
    exact ⟨rfl, hx⟩
  rw [if_neg hd0] at hP
  rw [decide_eq_false hd0]
  refine rn ?_
  refine G.join (fun X : Int => [(4, none, .bool neg), (8, none, ptr W1.heap.size), (9, none, .int .i64 ((trimZ dl).length : Nat))])
    (fun X W' => Ext w W' ∧ Bx W' W1.heap.size [v, .int .i64 X] ∧ RtO W' W1.heap.size v l ∧ parseP s = some (progBits (trimZ dl) X + sgn neg) ∧ -100000000 ≤ X ∧ X ≤ 100000000) ?_ ?_
  rotate_left
  · rcases rest with _ | ⟨c, r⟩
    · rw [if_pos rfl] at hP
      rw [decide_eq_false (p := ((i : Nat) : Int) < ((u.length : Nat) : Int)) (by simp only [List.length_nil] at hrl; omega)]
      refine rn ?_
      exact G.met (-(kk : Int)) (by repeat (first | exact Sub.nil _ | refine Sub.cons rfl ?_)) ⟨hx, hb, hl, hP, by omega, by omega⟩
    · rw [if_neg (by simp)] at hP
      obtain ⟨n, hn⟩ : ∃ n, n = (c :: r).length := ⟨_, rfl⟩
      have hn0 : 0 < n := by rw [hn]; simp
      rw [← hn] at hrl
      rw [decide_eq_true (p := ((i : Nat) : Int) < ((u.length : Nat) : Int)) (by omega)]
      refine rn ?_
      refine GL.cons (Step.sliceSl tb i rfl (Op1.of rfl (by first | exact fun _ => rfl | exact fun h => h | exact fun h => bL h | exact fun h => bL (bL h) | exact fun h => bL (bL (bL h)))) (Op1.of rfl (by first | exact fun _ => rfl | exact fun h => h | exact fun h => bL h | exact fun h => bL (bL h) | exact fun h => bL (bL (bL h)))) rfl (fun _ => ⟨rfl, by omega⟩) rfl ?_)
      rw [← hrest]
      refine sCall c76 (exponentR_ok c r W (by omega)) ?_
      rintro rv W5 ⟨hr, hx5⟩
      unfold ExpR at hr
      have hb := hb.to hx5
      have hl := hl.to hx5
      have hx := hx.trans hx5
      clear hx5
      have hed : ∀ ng l, expP (c :: r) = some (ng, l) → allD l := fun ng l h => by
        unfold expP at h
        split at h
        · split at h
          · simp at h
          · rename_i h2
            injection h with h
            injection h with _ h
            rw [← h]
            exact runD_all (Decidable.byContradiction fun h3 => h2 (.inr h3))
        · simp at h
      generalize expP (c :: r) = eP at hP hr hed
      rcases eP with _ | ⟨ng, el⟩
      · obtain ⟨x, rfl⟩ := hr
        have hP : parseP s = none := hP
        rw [hP]
        refine rn ?_
        refine G.ret2 rfl rfl rfl rfl rfl ?_
        exact ⟨rfl, hx⟩
      · have hr : rv = .tuple ⟨[.int .i64 ((if ng then -1 else 1) * ((refE el el.length : Nat) : Int)), .bool true]⟩ := hr
        subst hr
        obtain ⟨he1, he2⟩ := refE_eq el (hed ng el rfl) el.length (Nat.le_refl _)
        rw [List.take_length] at he1
        have hP : parseP s = some (progBits (trimZ dl) (-(kk : Int) + (if ng = true then -1 else 1) * ((min (numL el 0) 100000 : Nat) : Int)) + sgn neg) := hP
        generalize refE el el.length = E at he1 he2 ⊢
        generalize numL el 0 = M at he1 hP
        obtain ⟨sg, hsg⟩ : ∃ sg : Int, sg = if ng = true then -1 else 1 := ⟨_, rfl⟩
        have hsg2 : sg = -1 ∨ sg = 1 := by rw [hsg]; split <;> simp
        rw [← hsg] at hP ⊢
        have hfar : progBits (trimZ dl) (-(kk : Int) + sg * ((min M 100000 : Nat) : Int)) = progBits (trimZ dl) (-(kk : Int) + sg * (E : Int)) := by
          refine prog_far (by omega) ?_
          by_cases hM : M ≤ 100000
          · left
            rw [Nat.min_eq_left hM, he1.resolve_right (by omega)]
          · rw [Nat.min_eq_right (by omega)]
            rcases hsg2 with h | h <;> rw [h] <;> omega
        rw [hfar] at hP
        have hXb : -10000009 ≤ sg * (E : Int) ∧ sg * (E : Int) ≤ 10000009 := by rcases hsg2 with h | h <;> rw [h] <;> omega
        generalize sg * (E : Int) = X at *
        refine rn ?_
        refine sAd tb (r := -(kk : Int) + X) ?_ (hp := wrap_i64 (by omega) (by omega))
        refine rn ?_
        refine sSf tb (fun W6 hb6 hw6 => ?_)
        have hb6 : Bx W6 W1.heap.size [v, .int .i64 (-(kk : Int) + X)] := hb6
        refine rn ?_
        exact G.met (-(kk : Int) + X) (by repeat (first | exact Sub.nil _ | refine Sub.cons rfl ?_)) ⟨Below.wr hx hw6 hW, hb6, hl.wr hw6, hP, by omega, by omega⟩
  clear hb hl hx hP hrest
  rintro X W6 ⟨hx, hb, hl, hP, hX1, hX2⟩
  rw [hP]
  refine rn ?_
  refine sCall c77 (nearestR_ok v l X (trimZ dl).length W6 hl.rt (by omega) (by omega) hX1 hX2) ?_
  rintro _ W7 ⟨⟨b, rfl, hbi, hnr⟩, hx7⟩
  have hbP : b = progBits (trimZ dl) X := by
    refine ref_prog hda ?_
    have hzz : vL 10000 l = 0 ↔ trimZ dl = [] := by rw [hlv]; exact numZ hda
    have hnt := numL_trim dl
    rw [hlv] at hnr
    rw [hlv] at hzz
    constructor
    · intro h; exact hnr.zero (h.imp hzz.2 id)
    · intro h h2; exact hnr.inf (fun h3 => h (h3.imp hzz.1 id)) h2
    · intro h h2
      rw [hnt]
      exact hnr.mid (fun h3 => h (h3.imp hzz.1 id)) h2
  subst hbP
  refine rn ?_
  refine sCall c73 (signedR_ok (progBits (trimZ dl) X) neg W7 (progBits_bd _ _)) ?_
  rintro _ W8 ⟨rfl, hx8⟩
  refine rn ?_
  refine G.ret2 rfl rfl rfl rfl rfl ?_
  exact ⟨rfl, (hx.trans hx7).trans hx8⟩
end Go.Proofs.YtlaingmhdgpkdaaGreatDoor.Num
end
section
namespace Go.Nm

def isA (c : UInt8) : Bool := decide (97 ≤ c.toNat) && decide (c.toNat ≤ 122)
def runA : List UInt8 → Nat
  | [] => 0
  | c :: l => if isA c then runA l + 1 else 0
theorem runA_le : ∀ l, runA l ≤ l.length
  | [] => Nat.le_refl _
  | c :: l => by
    rw [runA]
    split
    · have := runA_le l; simp only [List.length_cons]; omega
    · exact Nat.zero_le _
theorem runA_eq : ∀ {l : List UInt8} {n : Nat}, n ≤ l.length → (∀ i, i < n → isA (l.getD i 0) = true) → (n = l.length ∨ isA (l.getD n 0) = false) → runA l = n
  | [], n, h, _, _ => by simp only [List.length_nil] at h; rw [show n = 0 by omega]; rfl
  | c :: l, 0, _, _, h => by
    rcases h with h | h
    · simp at h
    · simp only [List.getD_cons_zero] at h
      rw [runA, if_neg (by rw [h]; decide)]
  | c :: l, n + 1, h1, h2, h3 => by
    have h0 := h2 0 (by omega)
    simp only [List.getD_cons_zero] at h0
    rw [runA, if_pos h0, runA_eq (l := l) (n := n) (by simpa using h1) (fun i hi => by have := h2 (i + 1) (by omega); simpa using this) (by simpa using h3)]
theorem runA_dig : ∀ {l : List UInt8} {i : Nat}, i < runA l → isA (l.getD i 0) = true
  | [], i, h => by simp [runA] at h
  | c :: l, i, h => by
    rw [runA] at h
    split at h
    · rename_i hc
      cases i with
      | zero => simpa using hc
      | succ i => have := runA_dig (l := l) (i := i) (by omega); simpa using this
    · omega
theorem runA_stop : ∀ {l : List UInt8}, runA l < l.length → isA (l.getD (runA l) 0) = false
  | [], h => by simp at h
  | c :: l, h => by
    rw [runA] at h ⊢
    by_cases hc : isA c = true
    · rw [if_pos hc] at h ⊢
      have := runA_stop (l := l) (by simpa using h)
      simpa using this
    · rw [if_neg hc]
      simpa using hc
theorem runA_app : ∀ (l : List UInt8), runA (l ++ [48]) = runA l
  | [] => by decide
  | c :: l => by rw [List.cons_append, runA, runA, runA_app l]
/-- the units and their milliseconds -/
def unitsL : List (List UInt8 × Nat) := [([121], 31536000000), ([119], 604800000), ([100], 86400000), ([104], 3600000), ([109], 60000), ([115], 1000), ([109, 115], 1)]
/-- the unit of that name, and those behind it -/
def findU (nm : List UInt8) : List (List UInt8 × Nat) → Option (Nat × List (List UInt8 × Nat))
  | [] => none
  | u :: l => if u.1 = nm then some (u.2, l) else findU nm l
def maxT : Nat := 9007199254740992
/-- a sum; none: too large -/
def addD (acc : Option Nat) (many ms : Nat) : Option Nat := match acc with
  | none => none
  | some sum => if sum + many * ms ≤ maxT then some (sum + many * ms) else none
/-- the parts of a duration; none: no duration -/
def durGo : Nat → List (List UInt8 × Nat) → Option Nat → List UInt8 → Option (Option Nat)
  | 0, _, _, _ => none
  | f + 1, left, acc, s =>
    if runD s < 1 ∨ 15 < runD s then none else
    match findU ((s.drop (runD s)).take (runA (s.drop (runD s)))) left with
    | none => none
    | some (ms, left') =>
      if (s.drop (runD s)).drop (runA (s.drop (runD s))) = [] then some (addD acc (numL (s.take (runD s)) 0) ms)
      else durGo f left' (addD acc (numL (s.take (runD s)) 0) ms) ((s.drop (runD s)).drop (runA (s.drop (runD s))))
/-- fuel beyond the text's length changes nothing -/
theorem durGo_fuel : ∀ (f g : Nat) (left : List (List UInt8 × Nat)) (acc : Option Nat) (s : List UInt8), s.length < f → s.length < g → durGo f left acc s = durGo g left acc s
  | 0, _, _, _, _, h, _ => by omega
  | _, 0, _, _, _, _, h => by omega
  | f + 1, g + 1, left, acc, s, h1, h2 => by
    rw [durGo, durGo]
    by_cases hc : runD s < 1 ∨ 15 < runD s
    · rw [if_pos hc, if_pos hc]
    · rw [if_neg hc, if_neg hc]
      have hl := runD_le s
      cases findU ((s.drop (runD s)).take (runA (s.drop (runD s)))) left with
      | none => rfl
      | some p =>
        obtain ⟨ms, left'⟩ := p
        simp only
        split
        · rfl
        · exact durGo_fuel f g left' _ _ (by simp only [List.length_drop]; omega) (by simp only [List.length_drop]; omega)
/-- the duration of a text -/
def durP (s : List UInt8) : Option (Option Nat) := if s = [48] then some (some 0) else durGo (s.length + 1) unitsL (some 0) s
theorem add_prog {acc : Option Nat} {many ms : Nat} (hms : 0 < ms) : addD acc many ms = match acc with
    | none => none
    | some sum => if maxT / ms < many then none else if maxT < sum + many * ms then none else some (sum + many * ms) := by
  unfold addD
  cases acc with
  | none => rfl
  | some sum =>
    simp only
    by_cases h : maxT / ms < many
    · rw [if_pos h, if_neg]
      have := (Nat.div_lt_iff_lt_mul hms).1 h
      omega
    · rw [if_neg h]
      split
      · rw [if_neg (by omega)]
      · rw [if_pos (by omega)]
theorem add_ref {acc : Option Nat} {many ms : Nat} (hs : ∀ x, acc = some x → x ≤ maxT) : addD acc many ms = match acc with
    | none => none
    | some sum => if 0 < many ∧ (maxT - sum) / many < ms then none else some (sum + many * ms) := by
  unfold addD
  cases acc with
  | none => rfl
  | some sum =>
    have := hs sum rfl
    simp only
    by_cases h0 : 0 < many
    · have hd := Nat.div_lt_iff_lt_mul (x := maxT - sum) (y := ms) h0
      rw [Nat.mul_comm ms many] at hd
      by_cases h : (maxT - sum) / many < ms
      · have h2 := hd.1 h
        rw [if_pos (show 0 < many ∧ (maxT - sum) / many < ms from ⟨h0, h⟩), if_neg (by omega)]
      · have h2 : ¬ maxT - sum < many * ms := fun hh => h (hd.2 hh)
        rw [if_neg (show ¬ (0 < many ∧ (maxT - sum) / many < ms) from fun hh => h hh.2), if_pos (by omega)]
    · have h1 : many = 0 := by omega
      subst h1
      rw [if_neg (show ¬ (0 < 0 ∧ (maxT - sum) / 0 < ms) from fun hh => h0 hh.1), if_pos (by omega)]
theorem add_refS {sum many ms : Nat} (h : sum ≤ maxT) : addD (some sum) many ms = if 0 < many ∧ (maxT - sum) / many < ms then none else some (sum + many * ms) :=
  add_ref (acc := some sum) (fun x hx => by injection hx with hx; omega)
theorem add_le {acc : Option Nat} {many ms : Nat} : ∀ x, addD acc many ms = some x → x ≤ maxT := fun x h => by
  unfold addD at h
  cases acc with
  | none => simp at h
  | some sum =>
    simp only at h
    split at h
    · injection h with h; omega
    · simp at h
end Go.Nm
end
section
open Go Go.Vg Go.RowKit Go.Proofs Go.Proofs.YtlaingmhdgpkdaaGreatDoor
namespace Go.Proofs.YtlaingmhdgpkdaaGreatDoor
open Go.Nm
open Num

theorem its_to {w w' : World} {b i : Nat} {s : List UInt8} (h : Its w b s i) (hx : Ext w w') : Its w' b s i := by
  unfold Its at *
  have hlt : b < w.heap.size := by
    apply Nat.lt_of_not_le
    intro hc
    rw [Array.getElem?_eq_none hc] at h
    cases h
  have hk : Kp w.heap.size w w' := hx.kp
  rw [hk.block b hlt (by omega)]
  exact h
abbrev CD : Value := .func (.func 81) #[] ⟨[]⟩
theorem letterD_ok (c : Nat) (w : World) : Ret Tryz.prog 81 ⟨[.int .i32 c]⟩ w fun r w' => r = .bool (!(decide (97 ≤ c) && decide (c ≤ 122))) ∧ Ext w w' := by
  refine ret_of_G Tryz.func81 rfl Tryz.ntmps81 rfl ?_
  simp only [argEnv]
  refine rn ?_
  refine G.ret1 rfl rfl rfl rfl ?_
  refine ⟨?_, Ext.refl _⟩
  congr 1
  rw [Bool.eq_iff_iff]
  simp only [Bool.or_eq_true, Bool.not_eq_true', Bool.and_eq_false_iff, decide_eq_true_eq, decide_eq_false_iff_not]
  omega
theorem indexFunc_ok (s : List UInt8) (hk : runA s < s.length) (w : World) : Ret Tryz.prog 123 ⟨[S s, CD, .bool true]⟩ w fun r w' => r = .int .i64 (runA s) ∧ Ext w w' := by
  refine ret_of_G Tryz.func123 rfl Tryz.ntmps123 rfl ?_
  simp only [argEnv]
  refine rn ?_
  refine sRg tb (fun W1 hi1 hx1 => ?_)
  refine rn ?_
  refine (G.loop (fun i : Nat => [(1, none, CD), (2, none, .bool true), (10, none, ptr w.heap.size)]) (fun i W => Ext w W ∧ i ≤ runA s ∧ Its W w.heap.size s i) (fun i => s.length - i) 0 (by repeat (first | exact Sub.nil _ | refine Sub.cons rfl ?_)) ⟨hx1, Nat.zero_le _, hi1⟩ ?_)
  clear hi1 hx1 W1
  rintro i W ⟨hx, hi, hit⟩
  have hlt : i < s.length := by omega
  refine rn ?_
  refine sNx hit hlt (fun W2 hi2 hw2 => ?_)
  have hx2 := hx.ofKp hw2.kp (Nat.le_refl _)
  by_cases hie : i = runA s
  · have hst := runA_stop hk
    rw [← hie] at hst
    have hc : (!(decide (97 ≤ (Utf8.decode ⟨⟨s⟩⟩ i).1) && decide ((Utf8.decode ⟨⟨s⟩⟩ i).1 ≤ 122))) = true := by
      by_cases ha : (s.getD i 0).toNat < 128
      · rw [decode_asc s i hlt ha]
        unfold isA at hst
        rw [hst]; rfl
      · have e : ((ByteArray.mk ⟨s⟩)[i]'hlt) = s.getD i 0 := by
          rw [List.getD_eq_getElem?_getD, List.getElem?_eq_getElem hlt]
          rfl
        have := (decode_high ⟨⟨s⟩⟩ i hlt (by rw [e]; omega)).1
        rw [decide_eq_false (p := (Utf8.decode ⟨⟨s⟩⟩ i).1 ≤ 122) (by omega), Bool.and_false]; rfl
    generalize (Utf8.decode ⟨⟨s⟩⟩ i).1 = c at hc ⊢
    refine rn ?_
    refine GL.cons (Step.callC rfl (Op1.of rfl (by first | exact fun _ => rfl | exact fun h => h | exact fun h => bL h | exact fun h => bL (bL h) | exact fun h => bL (bL (bL h)))) rfl rfl c81 rfl (letterD_ok c W2) ?_)
    rintro _ W3 ⟨rfl, hx3⟩
    rw [hc]
    refine rn ?_
    refine G.ret1 rfl rfl rfl rfl ?_
    exact ⟨by rw [hie], hx2.trans hx3⟩
  · have hst := runA_dig (l := s) (i := i) (by omega)
    have ha : (s.getD i 0).toNat < 128 := by
      simp only [isA, Bool.and_eq_true, decide_eq_true_eq] at hst
      omega
    rw [decode_asc s i hlt ha] at hi2 ⊢
    refine rn ?_
    refine GL.cons (Step.callC rfl (Op1.of rfl (by first | exact fun _ => rfl | exact fun h => h | exact fun h => bL h | exact fun h => bL (bL h) | exact fun h => bL (bL (bL h)))) rfl rfl c81 rfl (letterD_ok _ W2) ?_)
    rintro _ W3 ⟨rfl, hx3⟩
    unfold isA at hst
    rw [hst]
    refine rn ?_
    exact G.lp (x := i) (i + 1) (by repeat (first | exact Sub.nil _ | refine Sub.cons rfl ?_)) ⟨hx2.trans hx3, by omega, its_to hi2 hx3⟩ (by omega)
theorem indexF_ok (s : List UInt8) (hk : runA s < s.length) (w : World) : Ret Tryz.prog 80 ⟨[S s, CD]⟩ w fun r w' => r = .int .i64 (runA s) ∧ Ext w w' := by
  refine ret_of_G Tryz.func80 rfl Tryz.ntmps80 rfl ?_
  simp only [argEnv]
  refine rn ?_
  refine sCall c123 (indexFunc_ok s hk w) ?_
  rintro _ W ⟨rfl, hx⟩
  refine rn ?_
  refine G.ret1 rfl rfl rfl rfl ?_
  exact ⟨rfl, hx⟩
end Go.Proofs.YtlaingmhdgpkdaaGreatDoor
end
section
open Go Go.Vg Go.RowKit Go.Proofs Go.Proofs.YtlaingmhdgpkdaaGreatDoor
namespace Go.Proofs.YtlaingmhdgpkdaaGreatDoor
open Go.Nm
open Num

def unC (u : List UInt8 × Nat) : List Value := [S u.1, .int .i64 u.2]
theorem units_ok (w : World) : Ret Tryz.prog 78 ⟨[]⟩ w fun r w' => Sli w' r 2 (unitsL.map unC) ∧ Ext w w' := by
  refine ret_of_G Tryz.func78 rfl Tryz.ntmps78 rfl ?_
  simp only [argEnv]
  refine rn ?_
  refine sBs' tb (unitsL.map unC) (fun us W1 ho1 hs1 hx1 => ?_) (hkl := by simp [unitsL, unC])
  refine rn ?_
  refine G.ret1 rfl rfl rfl rfl ?_
  exact ⟨ho1.sli, hx1⟩
/-- what Duration tells -/
def durV : Option (Option Nat) → Value
  | none => .tuple ⟨[.int .i64 0, .int .i64 8]⟩
  | some none => .tuple ⟨[.int .i64 0, .int .i64 9]⟩
  | some (some n) => .tuple ⟨[.int .i64 (n : Nat), .int .i64 0]⟩
def durLeft (first : Bool) (left : List (List UInt8 × Nat)) (acc : Option Nat) (t : List UInt8) : Option (Option Nat) :=
  if first = true ∨ t ≠ [] then durGo (t.length + 1) left acc t else some acc
theorem units_bd : ∀ u ∈ unitsL, 0 < u.2 ∧ u.2 ≤ 31536000000 := by decide
set_option maxHeartbeats 4000000 in
theorem durP_ok (s : List UInt8) (w : World) (hs : s.length ≤ 9223372036854775807) : Ret Tryz.prog 46 ⟨[S s]⟩ w fun r w' => r = durV (durP s) ∧ Ext w w' := by
  unfold durP
  refine ret_of_G Tryz.func46 rfl Tryz.ntmps46 rfl ?_
  simp only [argEnv]
  refine rn ?_
  refine G.scope rfl rfl ?_
  refine rn ?_
  by_cases h48 : s = [48]
  · rw [decide_eq_true h48, if_pos h48]
    refine rn ?_
    refine G.ret2 rfl rfl rfl rfl rfl ?_
    exact ⟨rfl, Ext.refl _⟩
  rw [decide_eq_false h48, if_neg h48]
  refine rn ?_
  refine sCall c78 (units_ok w) ?_
  rintro uv W1 ⟨hu, hx1⟩
  refine rn ?_
  refine G.label ?_
  refine rn ?_
  refine (G.loop (fun y : List UInt8 × Option Nat × List (List UInt8 × Nat) × Value × Bool × Nat => [(0, none, S y.1), (4, none, .int .i64 (y.2.2.2.2.2 : Nat)), (5, none, .bool y.2.1.isNone), (6, none, y.2.2.2.1), (7, none, .bool y.2.2.2.2.1)])
    (fun y W => Ext w W ∧ Sli W y.2.2.2.1 2 (y.2.2.1.map unC) ∧ (∀ u ∈ y.2.2.1, 0 < u.2 ∧ u.2 ≤ 31536000000) ∧ y.1.length ≤ s.length ∧ durLeft y.2.2.2.2.1 y.2.2.1 y.2.1 y.1 = durGo (s.length + 1) unitsL (some 0) s ∧ (∀ x, y.2.1 = some x → y.2.2.2.2.2 = x ∧ x ≤ maxT) ∧ y.2.2.2.2.2 ≤ 2 * maxT) (fun y => y.1.length + y.2.2.2.2.1.toNat)
    (s, some 0, unitsL, uv, true, 0) (by repeat (first | exact Sub.nil _ | refine Sub.cons rfl ?_)) ⟨hx1, hu, units_bd, Nat.le_refl _, by unfold durLeft; rw [if_pos (.inl rfl)], fun x h => by injection h with h; subst h; exact ⟨rfl, Nat.zero_le _⟩, Nat.zero_le _⟩ ?_)
  clear hu hx1
  rintro ⟨t, acc, left, lv, first, sm⟩ W ⟨hx, hl, hub, htl, hd, hac, hsm⟩
  simp only at hl hub htl hd hac hsm
  have hmT : maxT = 9007199254740992 := rfl
  show G _ _ [(0, none, S t), (4, none, .int .i64 (sm : Nat)), (5, none, .bool acc.isNone), (6, none, lv), (7, none, .bool first)] _
  refine rn ?_
  rw [show (first || !decide (t = [])) = decide (first = true ∨ t ≠ []) by cases first <;> simp]
  by_cases hgo : first = true ∨ t ≠ []
  rotate_left
  · rw [decide_eq_false hgo]
    unfold durLeft at hd
    rw [if_neg hgo] at hd
    rw [← hd]
    rcases acc with _ | x
    · refine rn ?_
      refine G.ret2 rfl rfl rfl rfl rfl ?_
      exact ⟨rfl, hx⟩
    · obtain ⟨rfl, hxm⟩ := hac x rfl
      refine rn ?_
      refine G.ret2 rfl rfl rfl rfl rfl ?_
      exact ⟨rfl, hx⟩
  rw [decide_eq_true hgo]
  unfold durLeft at hd
  rw [if_pos hgo, durGo] at hd
  have hrl := runD_le t
  refine rn ?_
  refine sCall c79 (run_ok t W (by omega)) ?_
  rintro _ W2 ⟨rfl, hx2⟩
  have hx := hx.trans hx2
  have hl := hl.to hx2
  clear hx2
  refine rn ?_
  rw [show (decide (((runD t : Nat) : Int) < 1) || decide ((15 : Int) < ((runD t : Nat) : Int))) = decide (runD t < 1 ∨ 15 < runD t) by
    rw [Bool.eq_iff_iff]
    simp only [Bool.or_eq_true, decide_eq_true_eq]
    omega]
  by_cases hn : runD t < 1 ∨ 15 < runD t
  · rw [if_pos hn] at hd
    rw [decide_eq_true hn, ← hd]
    refine rn ?_
    refine G.ret2 rfl rfl rfl rfl rfl ?_
    exact ⟨rfl, hx⟩
  rw [if_neg hn] at hd
  rw [decide_eq_false hn]
  have hdig : ∀ i, i < runD t → 48 ≤ (t.getD i 0).toNat ∧ (t.getD i 0).toNat ≤ 57 := fun i hi => by simpa [isD] using runD_dig hi
  obtain ⟨n, hnn⟩ : ∃ n, n = runD t := ⟨_, rfl⟩
  rw [← hnn] at hd hn hrl hdig ⊢
  refine rn ?_
  have hnl : ∀ i, i ≤ 15 → i ≤ n → numL (t.take i) 0 < 10 ^ 15 := fun i hi hin => by
    have h1 := numL_lt (t.take i) 0 (fun c hc => by
      obtain ⟨j, hj, rfl⟩ := List.getElem_of_mem hc
      rw [List.length_take] at hj
      have := (hdig j (by omega)).2
      rw [List.getElem_take]
      rw [List.getD_eq_getElem?_getD, List.getElem?_eq_getElem (by omega)] at this
      exact this)
    rw [List.length_take, Nat.zero_add, Nat.one_mul] at h1
    exact Nat.lt_of_lt_of_le h1 (Nat.pow_le_pow_right (by decide) (by omega))
  refine (G.loop (fun i : Nat => [(0, none, S t), (4, none, .int .i64 (sm : Nat)), (5, none, .bool acc.isNone), (6, none, lv), (8, none, .int .i64 n), (9, none, .int .i64 (numL (t.take i) 0 : Nat)), (30, none, .int .i64 n), (31, none, .int .i64 i)]) (fun i W => W = W2 ∧ i ≤ n) (fun i => n - i) 0 (by repeat (first | exact Sub.nil _ | refine Sub.cons rfl ?_)) ⟨rfl, Nat.zero_le _⟩ ?_)
  rintro i W2 ⟨rfl, hi⟩
  have hmb := hnl i (by omega) hi
  refine rn ?_
  first | refine G.condD rfl (fun hc => ?_) (fun hc => ?_) | refine G.condN rfl (fun hc => ?_) (fun hc => ?_) | refine G.cond rfl (fun hc => ?_) (fun hc => ?_)
  · have hlt : i < n := by omega
    obtain ⟨hc1, hc2⟩ := hdig i hlt
    have hst : numL (t.take (i + 1)) 0 = 10 * numL (t.take i) 0 + ((t.getD i 0).toNat - 48) := by rw [take_snoc (by omega), numL_snoc]
    obtain ⟨c, hgc⟩ : ∃ c, t.getD i 0 = c := ⟨_, rfl⟩
    rw [hgc] at hc1 hc2 hst
    refine rn ?_
    refine sAd tb (r := ((10 * numL (t.take i) 0 : Nat) : Int)) ?_ (hp := (wrap_i64 (n := 10 * ((numL (t.take i) 0 : Nat) : Int)) (by omega) (by omega)).trans (by omega))
    refine rn ?_
    refine sBs tb i ?_ (hj := fun _ => ⟨rfl, by omega⟩)
    rw [hgc]
    refine GL.cons (Step.arith (k := .u8) (a := (c.toNat : Int)) (b := 48) (r := ((c.toNat - 48 : Nat) : Int)) rfl (Op1.of rfl (by first | exact fun _ => rfl | exact fun h => h | exact fun h => bL h | exact fun h => bL (bL h) | exact fun h => bL (bL (bL h)))) (Op1.of rfl (by first | exact fun _ => rfl | exact fun h => h | exact fun h => bL h | exact fun h => bL (bL h) | exact fun h => bL (bL (bL h)))) ((Go.Vg.wrap_u8 _).trans (by omega)) rfl ?_)
    refine rn ?_
    refine sCv tb (r := ((c.toNat - 48 : Nat) : Int)) ?_
    refine sAd tb (r := ((numL (t.take (i + 1)) 0 : Nat) : Int)) ?_ (hp := (wrap_i64 (n := ((10 * numL (t.take i) 0 : Nat) : Int) + ((c.toNat - 48 : Nat) : Int)) (by omega) (by omega)).trans (by omega))
    refine rn ?_
    refine sAd tb (r := ((i + 1 : Nat) : Int)) ?_
    refine rn ?_
    exact G.lp (x := i) (i + 1) (by repeat (first | exact Sub.nil _ | refine Sub.cons rfl ?_)) ⟨rfl, by omega⟩ (by omega)
  have hie : i = n := by omega
  subst hie
  obtain ⟨many, hmany⟩ : ∃ m, m = numL (t.take i) 0 := ⟨_, rfl⟩
  rw [← hmany] at hd hmb ⊢
  obtain ⟨u, hu⟩ : ∃ u, u = t.drop i := ⟨_, rfl⟩
  have hul : u.length = t.length - i := by rw [hu, List.length_drop]
  rw [← hu] at hd
  have hal := runA_le u
  have hra := runA_app u
  obtain ⟨k, hk⟩ : ∃ k, k = runA u := ⟨_, rfl⟩
  rw [← hk] at hd hal hra
  refine rn ?_
  refine GL.cons (Step.sliceSl tb i rfl (Op1.of rfl (by first | exact fun _ => rfl | exact fun h => h | exact fun h => bL h | exact fun h => bL (bL h) | exact fun h => bL (bL (bL h)))) (Op1.of rfl (by first | exact fun _ => rfl | exact fun h => h | exact fun h => bL h | exact fun h => bL (bL h) | exact fun h => bL (bL (bL h)))) rfl (fun _ => ⟨rfl, hrl⟩) rfl ?_)
  rw [← hu]
  have hka : runA (u ++ [48]) < (u ++ [48]).length := by rw [hra, List.length_append, List.length_singleton]; omega
  refine rn ?_
  refine sCat tb ?_ (hk := fun _ => by simp only [List.length_cons, List.length_nil]; omega)
  refine sCall c80 (indexF_ok (u ++ [48]) hka W2) ?_
  rintro _ W3 ⟨rfl, hx3⟩
  rw [hra]
  have hx := hx.trans hx3
  have hl := hl.to hx3
  clear hx3
  refine GL.cons (Step.sliceSh tb k rfl (Op1.of rfl (by first | exact fun _ => rfl | exact fun h => h | exact fun h => bL h | exact fun h => bL (bL h) | exact fun h => bL (bL (bL h)))) (Op1.of rfl (by first | exact fun _ => rfl | exact fun h => h | exact fun h => bL h | exact fun h => bL (bL h) | exact fun h => bL (bL (bL h)))) rfl (fun _ => ⟨rfl, hal⟩) rfl ?_)
  refine rn ?_
  have hkl : (u.take k).length = k := by rw [List.length_take]; omega
  rw [hkl]
  refine GL.cons (Step.sliceSl tb k rfl (Op1.of rfl (by first | exact fun _ => rfl | exact fun h => h | exact fun h => bL h | exact fun h => bL (bL h) | exact fun h => bL (bL (bL h)))) (Op1.of rfl (by first | exact fun _ => rfl | exact fun h => h | exact fun h => bL h | exact fun h => bL (bL h) | exact fun h => bL (bL (bL h)))) rfl (fun _ => ⟨rfl, hal⟩) rfl ?_)
  obtain ⟨nm, hnm⟩ : ∃ nm, nm = u.take k := ⟨_, rfl⟩
  obtain ⟨r, hr⟩ : ∃ r, r = u.drop k := ⟨_, rfl⟩
  have hrl2 : r.length = u.length - k := by rw [hr, List.length_drop]
  rw [← hnm, ← hr] at hd ⊢
  have hll : (left.map unC).length = left.length := List.length_map ..
  have hlb := hl.bound
  rw [hll] at hlb
  refine rn ?_
  rw [hll]
  refine (G.loop (fun j : Nat => [(0, none, S r), (4, none, .int .i64 (sm : Nat)), (5, none, .bool acc.isNone), (6, none, lv), (9, none, .int .i64 (many : Nat)), (11, none, S nm), (55, none, lv), (56, none, .int .i64 left.length), (57, none, .int .i64 j)]) (fun j W => Ext w W ∧ Sli W lv 2 (left.map unC) ∧ j ≤ left.length ∧ findU nm (left.drop j) = findU nm left) (fun j => left.length - j) 0 (by repeat (first | exact Sub.nil _ | refine Sub.cons rfl ?_)) ⟨hx, hl, Nat.zero_le _, rfl⟩ ?_)
  clear hx hl
  rintro j W4 ⟨hx, hl, hj, hfu⟩
  refine rn ?_
  by_cases hlt : j < left.length
  rotate_left
  · rw [decide_eq_false (p := ((j : Nat) : Int) < ((left.length : Nat) : Int)) (by omega)]
    rw [List.drop_eq_nil_of_le (by omega)] at hfu
    rw [← hfu] at hd
    have hd : none = durGo (s.length + 1) unitsL (some 0) s := hd
    rw [← hd]
    refine rn ?_
    refine G.ret2 rfl rfl rfl rfl rfl ?_
    exact ⟨rfl, hx⟩
  rw [decide_eq_true (p := ((j : Nat) : Int) < ((left.length : Nat) : Int)) (by omega)]
  have hdr : left.drop j = left[j] :: left.drop (j + 1) := List.drop_eq_getElem_cons hlt
  have hget : (left.map unC)[j]? = some (unC left[j]) := by rw [List.getElem?_map, List.getElem?_eq_getElem hlt]; rfl
  have hubj := hub left[j] (List.getElem_mem hlt)
  generalize left[j] = x at hdr hget hubj
  obtain ⟨un, ms⟩ := x
  rw [hdr, findU] at hfu
  simp only at hfu hubj
  refine rn ?_
  refine sIa tb j ?_ (hj := fun _ => ⟨rfl, by rw [hll]; exact hlt⟩)
  refine sLa tb (us := unC (un, ms)) ?_
  refine sAl tb (us := [S [], .int .i64 0]) (fun W5 hb5 hs5 hx5 => ?_)
  refine rn ?_
  refine sSt tb (vs := [S un, .int .i64 (ms : Nat)]) (fun W6 hb6 hw6 => ?_)
  have hx6 : Ext W4 W6 := Below.wr hx5 hw6 (Nat.le_refl _)
  have hx06 := hx.trans hx6
  have hl6 := hl.to hx6
  clear hb5 hs5 hx5 hw6
  refine rn ?_
  by_cases hun : un = nm
  rotate_left
  · rw [decide_eq_false hun]
    rw [if_neg hun] at hfu
    refine rn ?_
    refine sAd tb (r := ((j + 1 : Nat) : Int)) ?_
    refine rn ?_
    exact G.lp (x := j) (j + 1) (by repeat (first | exact Sub.nil _ | refine Sub.cons rfl ?_)) ⟨hx06, hl6, by omega, hfu⟩ (by omega)
  rw [decide_eq_true hun]
  rw [if_pos hun] at hfu
  rw [← hfu] at hd
  refine rn ?_
  refine sAd tb (r := ((j + 1 : Nat) : Int)) ?_
  refine GL.cons (Step.sliceVl tb (j + 1) rfl (Op1.of rfl (by first | exact fun _ => rfl | exact fun h => h | exact fun h => bL h | exact fun h => bL (bL h) | exact fun h => bL (bL (bL h)))) (Op1.of rfl (by first | exact fun _ => rfl | exact fun h => h | exact fun h => bL h | exact fun h => bL (bL h) | exact fun h => bL (bL (bL h)))) rfl rfl (fun _ => ⟨_, hl6⟩) (fun _ => ⟨rfl, by rw [hll]; omega⟩) rfl ?_)
  have hsub := hl6.sub (Nat.le_of_lt_succ (Nat.lt_succ_of_le (show j + 1 ≤ left.length by omega))) (Nat.le_of_eq hll.symm)
  have hdl : ((left.map unC).drop (j + 1)).take (left.length - (j + 1)) = (left.drop (j + 1)).map unC := by
    rw [List.take_of_length_le (by rw [List.length_drop, hll]; omega), List.map_drop]
  rw [hdl] at hsub
  rw [hll]
  obtain ⟨lv2, hlv2⟩ : ∃ v, v = subS lv 2 (j + 1) left.length := ⟨_, rfl⟩
  rw [← hlv2] at hsub ⊢
  have hd2 : (if r = [] then some (addD acc many ms) else durGo t.length (left.drop (j + 1)) (addD acc many ms) r) = durGo (s.length + 1) unitsL (some 0) s := hd
  have hd3 : durLeft false (left.drop (j + 1)) (addD acc many ms) r = durGo (s.length + 1) unitsL (some 0) s := by
    rw [← hd2]
    unfold durLeft
    by_cases hr0 : r = []
    · rw [if_pos hr0, if_neg (by rintro (h | h); cases h; exact h hr0)]
    · rw [if_neg hr0, if_pos (.inr hr0)]
      exact durGo_fuel _ _ _ _ _ (by omega) (by omega)
  have hub2 : ∀ u ∈ left.drop (j + 1), 0 < u.2 ∧ u.2 ≤ 31536000000 := fun u hu => hub u (List.mem_of_mem_drop hu)
  have hap := add_prog (acc := acc) (many := many) (ms := ms) hubj.1
  have hale := @add_le acc many ms
  clear hd hd2 hdl hl6 hl hub hfu hget hdr
  rcases acc with _ | x
  · have hap : addD none many ms = none := hap
    rw [hap] at hd3
    refine rn ?_
    refine GL.cons (Step.off (v := .int .i64 0) rfl (of_decide_eq_true rfl) rfl ?_)
    refine rn ?_
    exact G.lp (x := (t, none, left, lv, first, sm)) (r, none, left.drop (j + 1), lv2, false, sm) (by repeat (first | exact Sub.nil _ | refine Sub.cons rfl ?_)) ⟨hx06, hsub, hub2, by simp only; omega, hd3, (by intro x h; cases h), hsm⟩ (by simp only [Bool.toNat_false]; omega)
  obtain ⟨rfl, hxm⟩ := hac x rfl
  have hap : addD (some sm) many ms = if maxT / ms < many then none else if maxT < sm + many * ms then none else some (sm + many * ms) := hap
  have hqb := Nat.div_le_self maxT ms
  have hq : IntKind.i64.wrap ((9007199254740992 : Int).tdiv (ms : Nat)) = ((maxT / ms : Nat) : Int) := by
    have e : (9007199254740992 : Int).tdiv (ms : Nat) = ((maxT / ms : Nat) : Int) := by
      rw [Int.tdiv_eq_ediv_of_nonneg (by omega), Int.natCast_ediv, hmT]; rfl
    rw [e]
    generalize maxT / ms = q at hqb
    exact wrap_i64 (by omega) (by omega)
  have hmd : ¬ maxT / ms < many → many * ms ≤ maxT := fun h => Nat.le_trans (Nat.mul_le_mul_right _ (Nat.le_of_not_lt h)) (Nat.div_mul_le_self _ _)
  generalize maxT / ms = qd at hq hap hmd hqb
  have hms0 : (ms : Int) ≠ 0 := by omega
  refine rn ?_
  refine sQuo hq ?_ (hb := fun _ => hms0)
  refine rn ?_
  by_cases hb1 : qd < many
  · rw [if_pos hb1] at hap
    rw [hap] at hd3
    rw [decide_eq_true (p := ((qd : Nat) : Int) < ((many : Nat) : Int)) (by omega)]
    refine rn ?_
    exact G.lp (x := (t, some sm, left, lv, first, sm)) (r, none, left.drop (j + 1), lv2, false, sm) (by repeat (first | exact Sub.nil _ | refine Sub.cons rfl ?_)) ⟨hx06, hsub, hub2, by simp only; omega, hd3, (by intro x h; cases h), hsm⟩ (by simp only [Bool.toNat_false]; omega)
  rw [if_neg hb1] at hap
  have hmm := hmd hb1
  rw [decide_eq_false (p := ((qd : Nat) : Int) < ((many : Nat) : Int)) (by omega)]
  refine rn ?_
  obtain ⟨p, hp⟩ : ∃ p, p = many * ms := ⟨_, rfl⟩
  rw [← hp] at hap hmm
  refine sAd tb (r := ((p : Nat) : Int)) ?_ (hp := by rw [hp, Int.natCast_mul]; exact wrap_i64 (n := ((many : Nat) : Int) * ((ms : Nat) : Int)) (by rw [← Int.natCast_mul, ← hp]; omega) (by rw [← Int.natCast_mul, ← hp]; omega))
  refine sAd tb (r := ((sm + p : Nat) : Int)) ?_ (hp := (wrap_i64 (n := ((sm : Nat) : Int) + ((p : Nat) : Int)) (by omega) (by omega)).trans (by omega))
  (first | refine gl tb ?_ | refine gg tb ?_ | refine ll tb ?_ | refine lg tb ?_)
  by_cases hb2 : maxT < sm + p
  · rw [if_pos hb2] at hap
    rw [hap] at hd3
    rw [decide_eq_true (p := (9007199254740992 : Int) < ((sm + p : Nat) : Int)) (by omega)]
    refine G.lp (x := (t, some sm, left, lv, first, sm)) (r, none, left.drop (j + 1), lv2, false, sm + p) (by repeat (first | exact Sub.nil _ | refine Sub.cons rfl ?_)) ⟨hx06, hsub, hub2, by simp only; omega, hd3, (by intro x h; cases h), by simp only; omega⟩ (by simp only [Bool.toNat_false]; omega)
  · rw [if_neg hb2] at hap
    rw [hap] at hd3
    rw [decide_eq_false (p := (9007199254740992 : Int) < ((sm + p : Nat) : Int)) (by omega)]
    refine G.lp (x := (t, some sm, left, lv, first, sm)) (r, some (sm + p), left.drop (j + 1), lv2, false, sm + p) (by repeat (first | exact Sub.nil _ | refine Sub.cons rfl ?_)) ⟨hx06, hsub, hub2, by simp only; omega, hd3, (by intro x h; injection h with h; exact ⟨h, by omega⟩), by simp only; omega⟩ (by simp only [Bool.toNat_false]; omega)
end Go.Proofs.YtlaingmhdgpkdaaGreatDoor
end
section
open Go Go.Vg Go.RowKit Go.Proofs Go.Proofs.YtlaingmhdgpkdaaGreatDoor
namespace Go.Proofs.YtlaingmhdgpkdaaGreatDoor
open Go.Nm
open Num

abbrev uNm : List Value := [S [121], S [119], S [100], S [104], S [109], S [115], S [109, 115]]
abbrev uMs : List Value := [.int .i64 31536000000, .int .i64 604800000, .int .i64 86400000, .int .i64 3600000, .int .i64 60000, .int .i64 1000, .int .i64 1]
theorem unit_ok (i : Nat) (hi : i < 7) (w : World) : Ret Tryz.prog 82 ⟨[.int .i64 i]⟩ w fun r w' => (∃ nm ms, unitsL[i]? = some (nm, ms) ∧ r = .tuple ⟨[S nm, .int .i64 (ms : Nat)]⟩) ∧ Ext w w' := by
  refine ret_of_G Tryz.func82 rfl Tryz.ntmps82 rfl ?_
  simp only [argEnv]
  refine rn ?_
  refine sAl tb (us := List.replicate 7 (S [])) (fun W1 hb1 hs1 hx1 => ?_)
  refine sSt tb (vs := uNm) (fun W2 hb2 hw2 => ?_)
  have hx2 : Ext w W2 := Below.wr hx1 hw2 (Nat.le_refl _)
  clear hb1
  refine rn ?_
  refine sAl tb (us := List.replicate 7 (.int .i64 0)) (fun W3 hb3 hs3 hx3 => ?_)
  refine sSt tb (vs := uMs) (fun W4 hb4 hw4 => ?_)
  have hx4 : Ext W2 W4 := Below.wr hx3 hw4 (Nat.le_refl _)
  clear hb3
  have hb2 := hb2.to hx4
  refine rn ?_
  have hm1 : ∃ nm ms, unitsL[i]? = some (nm, ms) ∧ uNm[i * 1]? = some (S nm) ∧ uMs[i * 1]? = some (.int .i64 (ms : Nat)) := by
    rw [Nat.mul_one]
    rcases (show i = 0 ∨ i = 1 ∨ i = 2 ∨ i = 3 ∨ i = 4 ∨ i = 5 ∨ i = 6 by omega) with rfl | rfl | rfl | rfl | rfl | rfl | rfl <;> exact ⟨_, _, rfl, rfl, rfl⟩
  obtain ⟨nm, ms, hum, hn1, hn2⟩ := hm1
  refine G.regionM [(0, true), (1, true), (2, true), (3, true), (4, true), (5, true), (6, true), (7, true)] (Ext W4) (by kernel_rfl) (by kernel_rfl) rfl mixed (Ext.drew W4) rfl ?_
  refine rd ?_
  refine GM.read (fun w' hS => Step.indexAddrA tb i rfl (Op1.of rfl (by first | exact fun _ => rfl | exact fun h => h | exact fun h => bL h | exact fun h => bL (bL h) | exact fun h => bL (bL (bL h)))) (Op1.of rfl (by first | exact fun _ => rfl | exact fun h => h | exact fun h => bL h | exact fun h => bL (bL h) | exact fun h => bL (bL (bL h)))) rfl rfl (fun _ => ⟨_, rfl⟩) (fun _ => ⟨rfl, by omega⟩) rfl ⟨rfl, rfl⟩) rfl rfl ?_
  refine rd ?_
  refine GM.read (fun w' hS => Step.load1 tb rfl (Op1.of rfl (by first | exact fun _ => rfl | exact fun h => h | exact fun h => bL h | exact fun h => bL (bL h) | exact fun h => bL (bL (bL h)))) rfl rfl (fun hc => (hb2.to hS).ci hn1) rfl ⟨rfl, rfl⟩) rfl rfl ?_
  refine rd ?_
  refine GM.read (fun w' hS => Step.indexAddrA tb i rfl (Op1.of rfl (by first | exact fun _ => rfl | exact fun h => h | exact fun h => bL h | exact fun h => bL (bL h) | exact fun h => bL (bL (bL h)))) (Op1.of rfl (by first | exact fun _ => rfl | exact fun h => h | exact fun h => bL h | exact fun h => bL (bL h) | exact fun h => bL (bL (bL h)))) rfl rfl (fun _ => ⟨_, rfl⟩) (fun _ => ⟨rfl, by omega⟩) rfl ⟨rfl, rfl⟩) rfl rfl ?_
  refine rd ?_
  refine GM.read (fun w' hS => Step.load1 tb rfl (Op1.of rfl (by first | exact fun _ => rfl | exact fun h => h | exact fun h => bL h | exact fun h => bL (bL h) | exact fun h => bL (bL (bL h)))) rfl rfl (fun hc => (hb4.to hS).ci hn2) rfl ⟨rfl, rfl⟩) rfl rfl ?_
  refine rd ?_
  refine GM.nil ?_
  refine rn ?_
  refine G.ret2 rfl rfl rfl rfl rfl ?_
  exact ⟨⟨nm, ms, hum, rfl⟩, (hx2.trans hx4).trans (Ext.drew W4)⟩
end Go.Proofs.YtlaingmhdgpkdaaGreatDoor
end
section
open Go Go.Vg Go.RowKit Go.Proofs Go.Proofs.YtlaingmhdgpkdaaGreatDoor
namespace Go.Proofs.YtlaingmhdgpkdaaGreatDoor
open Go.Nm
open Num

theorem runD_stop : ∀ {l : List UInt8}, runD l < l.length → isD (l.getD (runD l) 0) = false
  | [], h => by simp at h
  | c :: l, h => by
    rw [runD] at h ⊢
    by_cases hc : isD c = true
    · rw [if_pos hc] at h ⊢
      have := runD_stop (l := l) (by simpa using h)
      simpa using this
    · rw [if_neg hc]
      simpa using hc
theorem runD_ge {l : List UInt8} {j : Nat} (hj : j ≤ l.length) (hd : ∀ i, i < j → isD (l.getD i 0) = true) : j ≤ runD l := by
  apply Nat.le_of_not_lt
  intro h
  have h1 := runD_stop (l := l) (by omega)
  rw [hd _ h] at h1
  cases h1
theorem getD_drop (s : List UInt8) (i j : Nat) : s.getD (i + j) 0 = (s.drop i).getD j 0 := by
  rw [List.getD_eq_getElem?_getD, List.getD_eq_getElem?_getD, List.getElem?_drop]
set_option maxHeartbeats 8000000 in
theorem durR_ok (s : List UInt8) (w : World) (hs : s.length ≤ 9223372036854775807) : Ret Tryz.prog 47 ⟨[S s]⟩ w fun r w' => r = durV (durP s) ∧ Ext w w' := by
  unfold durP
  refine ret_of_G Tryz.func47 rfl Tryz.ntmps47 rfl ?_
  simp only [argEnv]
  refine rn ?_
  by_cases h48 : s = [48]
  · rw [decide_eq_true h48, if_pos h48]
    refine rn ?_
    refine G.ret2 rfl rfl rfl rfl rfl ?_
    exact ⟨rfl, Ext.refl _⟩
  rw [decide_eq_false h48, if_neg h48]
  refine rn ?_
  refine (G.loop (fun y : Nat × Option Nat × Nat × Nat => [(0, none, S s), (4, none, .int .i64 (y.2.2.2 : Nat)), (5, none, .int .i64 (y.2.2.1 : Nat)), (6, none, .bool y.2.1.isNone), (7, none, .int .i64 (y.1 : Nat))])
    (fun y W => Ext w W ∧ y.1 ≤ s.length ∧ y.2.2.1 ≤ 7 ∧ durLeft (decide (y.1 = 0)) (unitsL.drop y.2.2.1) y.2.1 (s.drop y.1) = durGo (s.length + 1) unitsL (some 0) s ∧ (∀ x, y.2.1 = some x → y.2.2.2 = x) ∧ y.2.2.2 ≤ maxT) (fun y => s.length - y.1)
    (0, some 0, 0, 0) (by repeat (first | exact Sub.nil _ | refine Sub.cons rfl ?_)) ⟨Ext.refl _, Nat.zero_le _, Nat.zero_le _, by unfold durLeft; rw [if_pos (.inl rfl)]; rfl, fun x h => by injection h, Nat.zero_le _⟩ ?_)
  rintro ⟨i, acc, nx, sm⟩ W ⟨hx, hi, hnx, hd, hac, hsm⟩
  simp only at hi hnx hd hac hsm
  have hmT : maxT = 9007199254740992 := rfl
  show G _ _ [(0, none, S s), (4, none, .int .i64 (sm : Nat)), (5, none, .int .i64 (nx : Nat)), (6, none, .bool acc.isNone), (7, none, .int .i64 (i : Nat))] _
  obtain ⟨t, ht⟩ : ∃ t, t = s.drop i := ⟨_, rfl⟩
  have htl : t.length = s.length - i := by rw [ht, List.length_drop]
  have hgt : ∀ j, s.getD (i + j) 0 = t.getD j 0 := fun j => by rw [ht]; exact getD_drop s i j
  rw [← ht] at hd
  refine rn ?_
  rw [show (decide (((i : Nat) : Int) < ((s.length : Nat) : Int)) || decide (((i : Nat) : Int) = 0)) = decide (decide (i = 0) = true ∨ t ≠ []) by
    rw [Bool.eq_iff_iff]
    simp only [Bool.or_eq_true, decide_eq_true_eq, ne_eq, ← List.length_eq_zero_iff]
    omega]
  by_cases hgo : decide (i = 0) = true ∨ t ≠ []
  rotate_left
  · rw [decide_eq_false hgo]
    unfold durLeft at hd
    rw [if_neg hgo] at hd
    rw [← hd]
    rcases acc with _ | x
    · refine rn ?_
      refine G.ret2 rfl rfl rfl rfl rfl ?_
      exact ⟨rfl, hx⟩
    · obtain rfl := hac x rfl
      refine rn ?_
      refine G.ret2 rfl rfl rfl rfl rfl ?_
      exact ⟨rfl, hx⟩
  rw [decide_eq_true hgo]
  unfold durLeft at hd
  rw [if_pos hgo, durGo] at hd
  refine rn ?_
  refine (G.loop (fun j : Nat => [(0, none, S s), (4, none, .int .i64 (sm : Nat)), (5, none, .int .i64 (nx : Nat)), (6, none, .bool acc.isNone), (7, none, .int .i64 ((i + j : Nat) : Int)), (8, none, .int .i64 (i : Nat)), (9, none, .int .i64 (numL (t.take j) 0 : Nat))])
    (fun j W => Ext w W ∧ j ≤ t.length ∧ j ≤ 16 ∧ ∀ a, a < j → isD (t.getD a 0) = true) (fun j => 16 - j) 0 (by repeat (first | exact Sub.nil _ | refine Sub.cons rfl ?_)) ⟨hx, Nat.zero_le _, Nat.zero_le _, fun a h => by omega⟩ ?_)
  clear hx W
  rintro j W ⟨hx, hjl, hj16, hdj⟩
  have hgj := hgt j
  have hmb : numL (t.take j) 0 < 10 ^ 16 := by
    have h1 := numL_lt (t.take j) 0 (fun c hc => by
      obtain ⟨a, ha, rfl⟩ := List.getElem_of_mem hc
      rw [List.length_take] at ha
      have := hdj a (by omega)
      rw [List.getElem_take]
      rw [List.getD_eq_getElem?_getD, List.getElem?_eq_getElem (by omega)] at this
      have h2 : isD t[a] = true := this
      simp only [isD, Bool.and_eq_true, decide_eq_true_eq] at h2
      exact h2.2)
    rw [List.length_take, Nat.zero_add, Nat.one_mul] at h1
    exact Nat.lt_of_lt_of_le h1 (Nat.pow_le_pow_right (by decide) (by omega))
  refine rn ?_
  refine sBs tb (i + j) ?_ (hj := by intro h; exact ⟨rfl, by have h : decide (((i + j : Nat) : Int) < ((s.length : Nat) : Int)) = true := h; have := of_decide_eq_true h; omega⟩)
  rw [hgj]
  refine GL.cons (Step.callX rfl rfl (by repeat (first | exact OpL.nil | refine OpL.cons (Op1.of rfl (by first | exact fun _ => rfl | exact fun h => h | exact fun h => bL h | exact fun h => bL (bL h) | exact fun h => bL (bL (bL h)))) ?_)) c74 rfl (fun hc => digitR_ok (t.getD j 0) W) ?_)
  intro W2 hx2
  have hx := hx.trans hx2
  clear hx2
  refine rn ?_
  refine sAd tb (r := ((j : Nat) : Int)) ?_ (hp := (wrap_i64 (n := ((i + j : Nat) : Int) - ((i : Nat) : Int)) (by omega) (by omega)).trans (by omega))
  refine rn ?_
  have hbe : (decide (((i + j : Nat) : Int) < ((s.length : Nat) : Int)) && isD (t.getD j 0) && decide (((j : Nat) : Int) < 16)) = decide (j < t.length ∧ isD (t.getD j 0) = true ∧ j < 16) := by
    rw [Bool.eq_iff_iff]
    simp only [Bool.and_eq_true, decide_eq_true_eq]
    exact ⟨fun ⟨⟨h1, h2⟩, h3⟩ => ⟨by omega, h2, by omega⟩, fun ⟨h1, h2, h3⟩ => ⟨⟨by omega, h2⟩, by omega⟩⟩
  rw [hbe]
  by_cases hgo2 : j < t.length ∧ isD (t.getD j 0) = true ∧ j < 16
  · obtain ⟨hjt, hdi, hj16⟩ := hgo2
    rw [decide_eq_true (p := j < t.length ∧ isD (t.getD j 0) = true ∧ j < 16) ⟨hjt, hdi, hj16⟩]
    have hc : 48 ≤ (t.getD j 0).toNat ∧ (t.getD j 0).toNat ≤ 57 := by simpa [isD] using hdi
    have hdj2 : ∀ a, a < j + 1 → isD (t.getD a 0) = true := fun a ha => by
      by_cases hja : a = j
      · rw [hja]; exact hdi
      · exact hdj a (by omega)
    have hst : numL (t.take (j + 1)) 0 = 10 * numL (t.take j) 0 + ((t.getD j 0).toNat - 48) := by rw [take_snoc hjt, numL_snoc]
    clear hbe hdi hdj
    generalize t.getD j 0 = c at *
    refine rn ?_
    refine sAd tb (r := ((10 * numL (t.take j) 0 : Nat) : Int)) ?_ (hp := (wrap_i64 (n := 10 * ((numL (t.take j) 0 : Nat) : Int)) (by omega) (by omega)).trans (by omega))
    refine rn ?_
    refine sBs tb (i + j) ?_ (hj := fun _ => ⟨rfl, by omega⟩)
    rw [hgj]
    refine GL.cons (Step.arith (k := .u8) (a := (c.toNat : Int)) (b := 48) (r := ((c.toNat - 48 : Nat) : Int)) rfl (Op1.of rfl (by first | exact fun _ => rfl | exact fun h => h | exact fun h => bL h | exact fun h => bL (bL h) | exact fun h => bL (bL (bL h)))) (Op1.of rfl (by first | exact fun _ => rfl | exact fun h => h | exact fun h => bL h | exact fun h => bL (bL h) | exact fun h => bL (bL (bL h)))) ((Go.Vg.wrap_u8 _).trans (by omega)) rfl ?_)
    refine rn ?_
    refine sCv tb (r := ((c.toNat - 48 : Nat) : Int)) ?_
    refine sAd tb (r := ((numL (t.take (j + 1)) 0 : Nat) : Int)) ?_ (hp := (wrap_i64 (n := ((10 * numL (t.take j) 0 : Nat) : Int) + ((c.toNat - 48 : Nat) : Int)) (by omega) (by omega)).trans (by omega))
    refine rn ?_
    refine sAd tb (r := ((i + (j + 1) : Nat) : Int)) ?_ (hp := (wrap_i64 (n := ((i + j : Nat) : Int) + 1) (by omega) (by omega)).trans (by omega))
    refine rn ?_
    exact G.lp (x := j) (j + 1) (by repeat (first | exact Sub.nil _ | refine Sub.cons rfl ?_)) ⟨hx, hjt, by omega, hdj2⟩ (by omega)
  rw [decide_eq_false hgo2]
  have hrun : (j < 16 ∧ runD t = j) ∨ (j = 16 ∧ 16 ≤ runD t) := by
    by_cases h16 : j < 16
    · left
      refine ⟨h16, runD_eq hjl hdj ?_⟩
      by_cases h : j < t.length
      · right
        cases h2 : isD (t.getD j 0)
        · rfl
        · exact absurd ⟨h, h2, h16⟩ hgo2
      · left; omega
    · right
      refine ⟨by omega, ?_⟩
      have := runD_ge hjl hdj
      omega
  clear hbe hgo2
  refine rn ?_
  refine sAd tb (r := ((j : Nat) : Int)) ?_ (hp := (wrap_i64 (n := ((i + j : Nat) : Int) - ((i : Nat) : Int)) (by omega) (by omega)).trans (by omega))
  refine rn ?_
  rw [show (decide (((i + j : Nat) : Int) = ((i : Nat) : Int)) || decide ((15 : Int) < ((j : Nat) : Int))) = decide (runD t < 1 ∨ 15 < runD t) by
    rw [Bool.eq_iff_iff]
    simp only [Bool.or_eq_true, decide_eq_true_eq]
    omega]
  by_cases hn : runD t < 1 ∨ 15 < runD t
  · rw [if_pos hn] at hd
    rw [decide_eq_true hn, ← hd]
    refine rn ?_
    refine G.ret2 rfl rfl rfl rfl rfl ?_
    exact ⟨rfl, hx⟩
  rw [if_neg hn] at hd
  rw [decide_eq_false hn]
  obtain ⟨h16, hrj⟩ := hrun.resolve_right (by omega)
  rw [hrj] at hd hn
  clear hrun hrj hdj hgj
  obtain ⟨many, hmany⟩ : ∃ m, m = numL (t.take j) 0 := ⟨_, rfl⟩
  rw [← hmany] at hd hmb ⊢
  obtain ⟨i1, hi1⟩ : ∃ i1, i1 = i + j := ⟨_, rfl⟩
  obtain ⟨u, hu⟩ : ∃ u, u = t.drop j := ⟨_, rfl⟩
  have hu2 : u = s.drop i1 := by rw [hu, ht, List.drop_drop, hi1]
  have hul : u.length = s.length - i1 := by rw [hu2, List.length_drop]
  have hgu : ∀ q, s.getD (i1 + q) 0 = u.getD q 0 := fun q => by rw [hu2]; exact getD_drop s i1 q
  rw [← hu] at hd
  rw [← hi1]
  refine rn ?_
  refine (G.loop (fun q : Nat => [(0, none, S s), (4, none, .int .i64 (sm : Nat)), (5, none, .int .i64 (nx : Nat)), (6, none, .bool acc.isNone), (7, none, .int .i64 (i1 : Nat)), (9, none, .int .i64 (many : Nat)), (10, none, .int .i64 ((i1 + q : Nat) : Int))])
    (fun q W' => W' = W2 ∧ q ≤ u.length ∧ ∀ a, a < q → isA (u.getD a 0) = true) (fun q => u.length - q) 0 (by repeat (first | exact Sub.nil _ | refine Sub.cons rfl ?_)) ⟨rfl, Nat.zero_le _, fun a h => by omega⟩ ?_)
  rintro q W2 ⟨rfl, hql, hdq⟩
  have hgq := hgu q
  refine rn ?_
  refine sBs tb (i1 + q) ?_ (hj := by intro h; exact ⟨rfl, by have h : decide (((i1 + q : Nat) : Int) < ((s.length : Nat) : Int)) = true := h; have := of_decide_eq_true h; omega⟩)
  rw [hgq]
  refine rn ?_
  refine sBs tb (i1 + q) ?_ (hj := by intro h; exact ⟨rfl, by have h : (decide (((i1 + q : Nat) : Int) < ((s.length : Nat) : Int)) && _) = true := h; have := of_decide_eq_true (Bool.and_eq_true_iff.1 h).1; omega⟩)
  rw [hgq]
  refine rn ?_
  have hbe : (decide (((i1 + q : Nat) : Int) < ((s.length : Nat) : Int)) && decide ((97 : Int) ≤ ((u.getD q 0).toNat : Int)) && decide (((u.getD q 0).toNat : Int) ≤ 122)) = decide (q < u.length ∧ isA (u.getD q 0) = true) := by
    rw [Bool.eq_iff_iff]
    simp only [isA, Bool.and_eq_true, decide_eq_true_eq]
    omega
  rw [hbe]
  by_cases hgo3 : q < u.length ∧ isA (u.getD q 0) = true
  · obtain ⟨hqu, hai⟩ := hgo3
    rw [decide_eq_true (p := q < u.length ∧ isA (u.getD q 0) = true) ⟨hqu, hai⟩]
    have hdq2 : ∀ a, a < q + 1 → isA (u.getD a 0) = true := fun a ha => by
      by_cases hja : a = q
      · rw [hja]; exact hai
      · exact hdq a (by omega)
    refine rn ?_
    refine sAd tb (r := ((i1 + (q + 1) : Nat) : Int)) ?_ (hp := (wrap_i64 (n := ((i1 + q : Nat) : Int) + 1) (by omega) (by omega)).trans (by omega))
    refine rn ?_
    exact G.lp (x := q) (q + 1) (by repeat (first | exact Sub.nil _ | refine Sub.cons rfl ?_)) ⟨rfl, hqu, hdq2⟩ (by omega)
  rw [decide_eq_false hgo3]
  have hrq : runA u = q := runA_eq hql hdq (by
    by_cases h : q < u.length
    · right
      cases h2 : isA (u.getD q 0)
      · rfl
      · exact absurd ⟨h, h2⟩ hgo3
    · left; omega)
  rw [hrq] at hd
  clear hbe hgo3 hrq hdq hgq
  obtain ⟨nm, hnm⟩ : ∃ nm, nm = u.take q := ⟨_, rfl⟩
  obtain ⟨r, hr⟩ : ∃ r, r = u.drop q := ⟨_, rfl⟩
  have hr2 : r = s.drop (i1 + q) := by rw [hr, hu2, List.drop_drop]
  rw [← hnm, ← hr] at hd
  refine rn ?_
  have hsl : (s.drop i1).take (i1 + q - i1) = nm := by rw [← hu2, hnm, Nat.add_sub_cancel_left]
  refine (G.loop (fun z : Nat × Bool × Option Nat × Nat × Nat => [(0, none, S s), (4, none, .int .i64 (z.2.2.2.2 : Nat)), (5, none, .int .i64 (z.2.2.2.1 : Nat)), (6, none, .bool z.2.2.1.isNone), (7, none, .int .i64 (i1 : Nat)), (9, none, .int .i64 (many : Nat)), (10, none, .int .i64 ((i1 + q : Nat) : Int)), (11, none, .bool z.2.1), (12, none, .int .i64 (z.1 : Nat))])
    (fun z W' => Ext w W' ∧ z.1 ≤ 7 ∧ (z.2.1 = false → z.2.2.1 = acc ∧ z.2.2.2.1 = nx ∧ z.2.2.2.2 = sm ∧ findU nm (unitsL.drop z.1) = findU nm (unitsL.drop nx)) ∧
      (z.2.1 = true → ∃ ms, findU nm (unitsL.drop nx) = some (ms, unitsL.drop z.2.2.2.1) ∧ z.2.2.2.1 ≤ 7 ∧ z.2.2.1 = addD acc many ms ∧ (∀ x, z.2.2.1 = some x → z.2.2.2.2 = x) ∧ z.2.2.2.2 ≤ maxT)) (fun z => 7 - z.1)
    (nx, false, acc, nx, sm) (by repeat (first | exact Sub.nil _ | refine Sub.cons rfl ?_)) ⟨hx, hnx, fun _ => ⟨rfl, rfl, rfl, rfl⟩, fun h => by cases h⟩ ?_)
  clear hx
  rintro ⟨v, found, acc2, nx2, sm2⟩ W ⟨hx, hv7, hf0, hf1⟩
  simp only at hv7 hf0 hf1
  show G _ _ [(0, none, S s), (4, none, .int .i64 (sm2 : Nat)), (5, none, .int .i64 (nx2 : Nat)), (6, none, .bool acc2.isNone), (7, none, .int .i64 (i1 : Nat)), (9, none, .int .i64 (many : Nat)), (10, none, .int .i64 ((i1 + q : Nat) : Int)), (11, none, .bool found), (12, none, .int .i64 (v : Nat))] _
  refine rn ?_
  cases found
  rotate_left
  · obtain ⟨ms, hfu, hn7, hac2, hac3, hsm2⟩ := hf1 rfl
    rw [hfu] at hd
    have hd2 : (if r = [] then some (addD acc many ms) else durGo t.length (unitsL.drop nx2) (addD acc many ms) r) = durGo (s.length + 1) unitsL (some 0) s := hd
    rw [show (decide (((v : Nat) : Int) < 7) && !true) = false by simp]
    refine rn ?_
    refine G.lp (x := (i, acc, nx, sm)) (i1 + q, acc2, nx2, sm2) (by repeat (first | exact Sub.nil _ | refine Sub.cons rfl ?_)) ⟨hx, by simp only; omega, hn7, ?_, hac3, hsm2⟩ (by simp only; omega)
    simp only
    rw [← hr2, hac2, ← hd2]
    unfold durLeft
    have hrl : r.length = s.length - (i1 + q) := by rw [hr2, List.length_drop]
    rw [decide_eq_false (p := i1 + q = 0) (by omega)]
    by_cases hr0 : r = []
    · rw [if_pos hr0, if_neg (by rintro (h | h); cases h; exact h hr0)]
    · rw [if_neg hr0, if_pos (.inr hr0)]
      exact durGo_fuel _ _ _ _ _ (by omega) (by omega)
  obtain ⟨rfl, rfl, rfl, hfu⟩ := hf0 rfl
  clear hf0 hf1
  by_cases hv : v < 7
  rotate_left
  · rw [List.drop_eq_nil_of_le (by show 7 ≤ v; omega)] at hfu
    rw [← hfu] at hd
    have hd : none = durGo (s.length + 1) unitsL (some 0) s := hd
    rw [← hd, decide_eq_false (p := ((v : Nat) : Int) < 7) (by omega)]
    refine rn ?_
    refine G.ret2 rfl rfl rfl rfl rfl ?_
    exact ⟨rfl, hx⟩
  rw [decide_eq_true (p := ((v : Nat) : Int) < 7) (by omega)]
  refine rn ?_
  refine sCall c82 (unit_ok v hv W) ?_
  rintro _ W5 ⟨⟨un, ms, hum, rfl⟩, hx5⟩
  have hx := hx.trans hx5
  clear hx5
  have hlen7 : v < unitsL.length := hv
  have hdr : unitsL.drop v = (un, ms) :: unitsL.drop (v + 1) := by
    rw [List.drop_eq_getElem_cons hlen7]
    rw [List.getElem?_eq_getElem hlen7] at hum
    injection hum with hum
    rw [hum]
  have hub := units_bd (un, ms) (List.mem_of_getElem? hum)
  simp only at hub
  rw [hdr, findU] at hfu
  simp only at hfu
  refine rn ?_
  refine GL.cons (Step.sliceS tb i1 (i1 + q) rfl (Op1.of rfl (by first | exact fun _ => rfl | exact fun h => h | exact fun h => bL h | exact fun h => bL (bL h) | exact fun h => bL (bL (bL h)))) (Op1.of rfl (by first | exact fun _ => rfl | exact fun h => h | exact fun h => bL h | exact fun h => bL (bL h) | exact fun h => bL (bL (bL h)))) (Op1.of rfl (by first | exact fun _ => rfl | exact fun h => h | exact fun h => bL h | exact fun h => bL (bL h) | exact fun h => bL (bL (bL h)))) rfl (fun _ => ⟨rfl, rfl, by omega, by omega⟩) rfl ?_)
  rw [hsl]
  refine rn ?_
  rw [show decide (nm = un) = decide (un = nm) from decide_eq_decide.2 eq_comm]
  by_cases hun : un = nm
  rotate_left
  · rw [decide_eq_false hun]
    rw [if_neg hun] at hfu
    refine rn ?_
    refine sAd tb (r := ((v + 1 : Nat) : Int)) ?_
    refine rn ?_
    exact G.lp (x := (v, false, acc2, nx2, sm2)) (v + 1, false, acc2, nx2, sm2) (by repeat (first | exact Sub.nil _ | refine Sub.cons rfl ?_)) ⟨hx, hv, fun _ => ⟨rfl, rfl, rfl, hfu⟩, fun h => by cases h⟩ (by simp only; omega)
  rw [decide_eq_true hun]
  rw [if_pos hun] at hfu
  refine rn ?_
  refine sAd tb (r := ((v + 1 : Nat) : Int)) ?_
  refine rn ?_
  have har := add_refS (many := many) (ms := ms) hsm
  have hale := @add_le acc2 many ms
  have hfe : findU nm (unitsL.drop nx2) = some (ms, unitsL.drop (v + 1)) := hfu.symm
  have hdb := Nat.div_le_self (maxT - sm2) many
  have hq : IntKind.i64.wrap (((maxT - sm2 : Nat) : Int).tdiv (many : Nat)) = (((maxT - sm2) / many : Nat) : Int) := by
    rw [Int.tdiv_eq_ediv_of_nonneg (by omega), ← Int.natCast_ediv]
    generalize (maxT - sm2) / many = z at hdb
    exact wrap_i64 (by omega) (by omega)
  refine sAd tb (r := ((maxT - sm2 : Nat) : Int)) ?_ (hp := (wrap_i64 (n := 9007199254740992 - ((sm2 : Nat) : Int)) (by omega) (by omega)).trans (by omega))
  (first | refine gl tb ?_ | refine gg tb ?_ | refine ll tb ?_ | refine lg tb ?_)
  refine sQuo hq ?_ (hb := by
    intro h
    have h : decide ((0 : Int) < ((many : Nat) : Int)) = true := h
    have := of_decide_eq_true h
    omega)
  (first | refine gl tb ?_ | refine gg tb ?_ | refine ll tb ?_ | refine lg tb ?_)
  have hcase : (acc2 = none ∨ (0 < many ∧ (maxT - sm2) / many < ms)) ∨ (acc2 = some sm2 ∧ ¬ (0 < many ∧ (maxT - sm2) / many < ms)) := by
    rcases acc2 with _ | x
    · exact .inl (.inl rfl)
    · obtain rfl := hac x rfl
      by_cases h : 0 < many ∧ (maxT - sm2) / many < ms
      · exact .inl (.inr h)
      · exact .inr ⟨rfl, h⟩
  rw [show (decide ((0 : Int) < ((many : Nat) : Int)) && decide ((((maxT - sm2) / many : Nat) : Int) < ((ms : Nat) : Int))) = decide (0 < many ∧ (maxT - sm2) / many < ms) by
    generalize (maxT - sm2) / many = z
    rw [Bool.eq_iff_iff]
    simp only [Bool.and_eq_true, decide_eq_true_eq]
    omega]
  generalize (maxT - sm2) / many = z at *
  rcases hcase with hA | ⟨hB, hB2⟩
  · have hadd : addD acc2 many ms = none := by
      rcases acc2 with _ | x
      · rfl
      · obtain rfl := hac x rfl
        rw [har]
        rcases hA with h | h
        · cases h
        · rw [if_pos h]
    rw [show (decide (0 < many ∧ z < ms) || acc2.isNone) = true by
      rcases hA with h | h
      · rw [h]; simp
      · rw [decide_eq_true h]; rfl]
    refine G.condT rfl ?_
    refine rn ?_
    refine sAd tb (r := ((v + 1 : Nat) : Int)) ?_
    refine rn ?_
    exact G.lp (x := (v, false, acc2, nx2, sm2)) (v + 1, true, none, v + 1, sm2) (by repeat (first | exact Sub.nil _ | refine Sub.cons rfl ?_)) ⟨hx, hv, (by intro h; cases h), fun _ => ⟨ms, hfe, hv, hadd.symm, (by intro x h; cases h), hsm⟩⟩ (by simp only; omega)
  · subst hB
    have hadd : addD (some sm2) many ms = some (sm2 + many * ms) := by rw [har, if_neg hB2]
    have hle := hale _ hadd
    rw [decide_eq_false hB2]
    rw [show (false || (some sm2).isNone) = false from rfl]
    refine G.condF rfl ?_
    (first | refine gl tb ?_ | refine gg tb ?_ | refine ll tb ?_ | refine lg tb ?_)
    obtain ⟨p, hp⟩ : ∃ p, p = many * ms := ⟨_, rfl⟩
    rw [← hp] at hle hadd
    refine sAd tb (r := ((p : Nat) : Int)) ?_ (hp := by rw [hp, Int.natCast_mul]; exact wrap_i64 (n := ((many : Nat) : Int) * ((ms : Nat) : Int)) (by rw [← Int.natCast_mul, ← hp]; omega) (by rw [← Int.natCast_mul, ← hp]; omega))
    refine sAd tb (r := ((sm2 + p : Nat) : Int)) ?_ (hp := (wrap_i64 (n := ((sm2 : Nat) : Int) + ((p : Nat) : Int)) (by omega) (by omega)).trans (by omega))
    refine rn ?_
    refine sAd tb (r := ((v + 1 : Nat) : Int)) ?_
    refine rn ?_
    exact G.lp (x := (v, false, some sm2, nx2, sm2)) (v + 1, true, some (sm2 + p), v + 1, sm2 + p) (by repeat (first | exact Sub.nil _ | refine Sub.cons rfl ?_)) ⟨hx, hv, (by intro h; cases h), fun _ => ⟨ms, hfe, hv, hadd.symm, (by intro x h; injection h), hle⟩⟩ (by simp only; omega)
end Go.Proofs.YtlaingmhdgpkdaaGreatDoor
end
section
namespace Go.Vg
open Go.RowKit Ieee

theorem cmp_mul {a b c : Int} (hc : 0 < c) : compare (a * c) (b * c) = compare a b := by
  simp only [compare, compareOfLessAndEq]
  have h1 : a * c < b * c ↔ a < b := ⟨fun h => Int.lt_of_mul_lt_mul_right h (Int.le_of_lt hc), fun h => Int.mul_lt_mul_of_pos_right h hc⟩
  have h2 : a * c = b * c ↔ a = b := ⟨fun h => Int.eq_of_mul_eq_mul_right (by omega) h, fun h => by rw [h]⟩
  simp only [h1, h2]
end Go.Vg
end
