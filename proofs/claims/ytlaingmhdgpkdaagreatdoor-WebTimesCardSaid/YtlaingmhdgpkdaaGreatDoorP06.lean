/- WebTimes: whatever texts, the law of times and steps returns true and leaves what came in alone. Conditions: none beyond the statement's own. -/
import Derived.Test.YtlaingmhdgpkdaaGreatDoorP05
import Derived.Lib.CountLaws
import Derived.KernelRfl
import Derived.Deep.Slices
import Derived.ProofKit
import Derived.Carry
import Derived.Deep.DeepHandedRow
import Derived.OpenShut
import Derived.Test.YtlaingmhdgpkdaaGreatDoorTie
import Derived.Test.YtlaingmhdgpkdaaGreatDoorCards
import Derived.Deep.DeepWitnessRowRef
import Derived.Lib.LaidIn
import Derived.Lib.LaidU8T
import Derived.Great.CaseRows
import Derived.PinnedBridge
import Derived.Shelf.Vars
import Derived.SizedLaws
import Derived.Lib.SmallJoins
set_option linter.unusedSimpArgs false
set_option linter.unusedVariables false
set_option linter.unusedSectionVars false
section
open Go Go.Vg Go.RowKit Go.Proofs Go.Proofs.YtlaingmhdgpkdaaGreatDoor
namespace Go.Proofs.YtlaingmhdgpkdaaGreatDoor

/-! ### strings.Split -/
theorem splitK_pieces {sep : List UInt8} (hsep : sep ≠ []) : ∀ (n : Nat) (s : List UInt8), s.length ≤ n → Lib.splitK sep 0 (Lib.count s sep) s = piecesL s sep := by
  have hl : 0 < sep.length := List.length_pos_iff.2 hsep
  intro n
  induction n with
  | zero =>
    intro s h
    obtain rfl : s = [] := List.eq_nil_of_length_eq_zero (by omega)
    have hi : Lib.index [] sep = -1 := index_nil hsep
    rw [Lib.count_miss hi, piecesL_step hsep, if_pos (by omega)]
    rfl
  | succ n ih =>
    intro s h
    rw [piecesL_step hsep]
    by_cases hi : Lib.index s sep < 0
    · have hi1 : Lib.index s sep = -1 := by have := Lib.index_ge s sep; omega
      rw [if_pos hi, Lib.count_miss hi1]; rfl
    · obtain ⟨i, hie⟩ : ∃ i : Nat, Lib.index s sep = i := ⟨(Lib.index s sep).toNat, by omega⟩
      have hroom := Lib.index_room s sep (by omega)
      rw [if_neg hi, Lib.count_hit hsep hie, Nat.add_comm 1]
      simp only [Lib.splitK]
      rw [if_neg (by rw [hie]; simp)]
      rw [hie] at hroom ⊢
      simp only [Int.toNat_natCast, Nat.add_zero] at hroom ⊢
      rw [ih _ (by rw [List.length_drop]; omega)]
theorem split_ok (s sep : List UInt8) (w : World) (hs : s.length ≤ 4000000000) (hsep : sep ≠ []) (hM : MaxC w) :
    Ret Tryz.prog 52 ⟨[S s, S sep]⟩ w fun r w' => Strs w' r (piecesL s sep) ∧ Ext w w' := by
  obtain ⟨m, hm⟩ := hM
  have hl : 0 < sep.length := List.length_pos_iff.2 hsep
  refine Calls.mono (Any.strings_Split Tryz.lays146 (by kernel_rfl) ⟨⟨s⟩⟩ ⟨⟨sep⟩⟩ m w (by show s.length < _; omega) hm hl) ?_
  rintro e w' ⟨he, rfl⟩
  refine ⟨_, he, ?_, Ext.alloc _ _⟩
  have hd : (Lib.splitB ⟨⟨sep⟩⟩ 0 (Lib.countB ⟨⟨s⟩⟩ ⟨⟨sep⟩⟩) ⟨⟨s⟩⟩).map (·.data.toList) = piecesL s sep := by
    rw [Lib.splitB_data]
    exact splitK_pieces hsep s.length s (Nat.le_refl _)
  have hlen : (Lib.splitB ⟨⟨sep⟩⟩ 0 (Lib.countB ⟨⟨s⟩⟩ ⟨⟨sep⟩⟩) ⟨⟨s⟩⟩).length = Lib.countB ⟨⟨s⟩⟩ ⟨⟨sep⟩⟩ + 1 := Lib.splitB_all ⟨⟨sep⟩⟩ hl 0 _ _ rfl
  generalize Lib.splitB ⟨⟨sep⟩⟩ 0 (Lib.countB ⟨⟨s⟩⟩ ⟨⟨sep⟩⟩) ⟨⟨s⟩⟩ = bs at hd hlen
  have hpl : (piecesL s sep).length = Lib.countB ⟨⟨s⟩⟩ ⟨⟨sep⟩⟩ + 1 := by rw [← hd, List.length_map, hlen]
  have hcnt := piecesL_cnt s sep
  have hcells : ∀ (i : Nat) (x : List UInt8), (piecesL s sep)[i]? = some x → (bs.map Value.string).toArray[i]? = some (S x) := by
    intro i x hx
    rw [← hd, List.getElem?_map, Option.map_eq_some_iff] at hx
    obtain ⟨b, hb, rfl⟩ := hx
    rw [List.getElem?_toArray, List.getElem?_map, hb]; rfl
  refine .inr ⟨⟨w.heap.size, 0, none⟩, Lib.countB ⟨⟨s⟩⟩ ⟨⟨sep⟩⟩ + 1, ?_, rfl, ?_, strC_k _, ?_, ?_⟩
  · rw [List.length_map, hpl]
  · rw [List.length_map, hpl]; exact Nat.le_refl _
  · intro i x hx j u hu
    simp only [List.getElem?_map, Option.map_eq_some_iff] at hx
    obtain ⟨y, hy, rfl⟩ := hx
    cases j with
    | zero =>
      simp only [strC, List.getElem?_cons_zero, Option.some.injEq] at hu
      subst hu
      rw [Nat.mul_one, Nat.add_zero, Addr.add_lit, Nat.zero_add]
      rw [cell_of_row _ _ i _ _ (0, 0) (heap_alloc_new w _)]
      exact hcells i y hy
    | succ j => simp [strC] at hu
  · rw [List.length_map]; omega

/-! ### bounds -/
theorem decP_len (plus : Bool) : ∀ (n : Nat) (s o : List UInt8), s.length ≤ n → decP plus s = some o → o.length ≤ s.length
  | 0, s, o, h, hd => by
    obtain rfl : s = [] := List.eq_nil_of_length_eq_zero (by omega)
    simp only [decP, Option.some.injEq] at hd; subst hd; exact Nat.le_refl _
  | n + 1, [], o, h, hd => by simp only [decP, Option.some.injEq] at hd; subst hd; exact Nat.le_refl _
  | n + 1, c :: r, o, h, hd => by
    rw [decP_cons] at hd
    simp only [List.length_cons] at h ⊢
    split at hd
    · obtain ⟨o', ho, rfl⟩ := Option.map_eq_some_iff.1 hd
      have := decP_len plus n r o' (by omega) ho
      simp only [List.length_cons]; omega
    · split at hd
      · split at hd
        · rename_i a b r'
          split at hd
          · cases hd
          · obtain ⟨o', ho, rfl⟩ := Option.map_eq_some_iff.1 hd
            simp only [List.length_cons] at h
            have := decP_len plus n r' o' (by omega) ho
            simp only [List.length_cons]; omega
        · cases hd
      · obtain ⟨o', ho, rfl⟩ := Option.map_eq_some_iff.1 hd
        have := decP_len plus n r o' (by omega) ho
        simp only [List.length_cons]; omega
theorem paramsL_bd {L : Nat} : ∀ (ps : List (List UInt8)) (ls : List Lab), (∀ p ∈ ps, p.length ≤ L) → paramsL ps = some ls → ls.length ≤ ps.length ∧ ∀ x ∈ ls, x.1.length ≤ L ∧ x.2.length ≤ L
  | [], ls, _, h => by simp only [paramsL, Option.some.injEq] at h; subst h; exact ⟨Nat.le_refl _, fun x hx => by cases hx⟩
  | p :: r, ls, hp, h => by
    simp only [paramsL] at h
    split at h
    · obtain ⟨h1, h2⟩ := paramsL_bd r ls (fun q hq => hp q (by simp [hq])) h
      exact ⟨by simp only [List.length_cons]; omega, h2⟩
    · split at h
      · rename_i x hx
        obtain ⟨l', hl', rfl⟩ := Option.map_eq_some_iff.1 h
        obtain ⟨h1, h2⟩ := paramsL_bd r l' (fun q hq => hp q (by simp [hq])) hl'
        refine ⟨by simp only [List.length_cons]; omega, ?_⟩
        intro y hy
        rcases List.mem_cons.1 hy with rfl | hy
        · have hpl := hp p (by simp)
          have hcl := cut_len p [61]
          unfold partP at hx
          split at hx
          · rename_i n v hn hv
            cases hx
            have a1 := decP_len true _ _ _ (Nat.le_refl _) hn
            have a2 := decP_len true _ _ _ (Nat.le_refl _) hv
            exact ⟨by simp only; omega, by simp only; omega⟩
          · cases hx
        · exact h2 y hy
      · cases h
theorem aget_aput (es : TT) (k v x : List UInt8) (u : List UInt8) (h : aget (aput es k v) x = some u) : u = v ∨ aget es x = some u := by
  induction es with
  | nil =>
    simp only [aput, aget] at h
    split at h
    · cases h; exact .inl rfl
    · cases h
  | cons p r ih =>
    simp only [aput] at h
    split at h
    · rename_i hk
      simp only [aget] at h
      split at h
      · cases h; exact .inl rfl
      · rename_i hx
        refine .inr ?_
        simp only [aget]
        rw [if_neg (by rw [hk]; exact hx)]; exact h
    · simp only [aget] at h
      split at h
      · rename_i hx
        refine .inr ?_
        simp only [aget]
        rw [if_pos hx]; exact h
      · rename_i hx
        rcases ih h with h1 | h1
        · exact .inl h1
        · refine .inr ?_
          simp only [aget]
          rw [if_neg hx]; exact h1
theorem headP_bd {L : Nat} : ∀ (ls : List (List UInt8)) (es es' : TT), (∀ s ∈ ls, s.length ≤ L) → (∀ x u, aget es x = some u → u.length ≤ L) → headP es ls = some es' → ∀ x u, aget es' x = some u → u.length ≤ L
  | [], es, es', _, he, h => by simp only [headP, Option.some.injEq] at h; subst h; exact he
  | s :: r, es, es', hl, he, h => by
    simp only [headP] at h
    split at h
    · rename_i es1 h1
      refine headP_bd r es1 es' (fun q hq => hl q (by simp [hq])) ?_ h
      unfold lineP at h1
      split at h1
      · cases h1
      · split at h1
        · cases h1
          intro x u hu
          rcases aget_aput _ _ _ _ _ hu with rfl | hu
          · have a1 := trimB_len (Lib.cut s [58]).2.1 32
            have a2 := cut_len s [58]
            have a3 := hl s (by simp)
            omega
          · exact he x u hu
        · cases h1
    · cases h
theorem piecesL_ne (s sep : List UInt8) : piecesL s sep ≠ [] := by
  by_cases h : sep = []
  · unfold piecesL; rw [if_pos h]; simp
  · rw [piecesL_cut h]; simp

/-! ### Read in plain words -/
def getS : List UInt8 := [71, 69, 84]
def postS : List UInt8 := [80, 79, 83, 84]
def ctS : List UInt8 := [99, 111, 110, 116, 101, 110, 116, 45, 116, 121, 112, 101]
def formS : List UInt8 := [97, 112, 112, 108, 105, 99, 97, 116, 105, 111, 110, 47, 120, 45, 119, 119, 119, 45, 102, 111, 114, 109, 45, 117, 114, 108, 101, 110, 99, 111, 100, 101, 100]
abbrev Req := List UInt8 × List UInt8 × List Lab
def noReq : Req := ([], [], [])
/-- a request whose parts are well: its path, parameters and body are still to be read -/
def readB (method target body : List UInt8) (es : TT) : Req × Int :=
  match decP false (Lib.cut target [63]).1, paramsL (piecesL (Lib.cut target [63]).2.1 [38]) with
  | some path, some ls => if textP path ls = false then (noReq, 400) else
    if (decide (method = postS) && decide (Lib.trimB (Lib.cut ((aget es ctS).getD []) [59]).1 32 = formS)) = true then
      match paramsL (piecesL body [38]) with
      | some ms => if textP [] ms = false then (noReq, 400) else ((method, path, ls ++ ms), 200)
      | none => (noReq, 400)
    else ((method, path, ls), 200)
  | _, _ => (noReq, 400)
/-- what stands ahead of the body is read, and the body's length is looked at -/
def readH (ok : Bool) (lines : List (List UInt8)) (body : List UInt8) : Req × Int :=
  match headP [] lines.tail with
  | none => (noReq, 400)
  | some es => if ((!ok || !(lineA (lines.headD [])).2.2) || !lengthP es body) = true then (noReq, 400) else
    if (!decide ((lineA (lines.headD [])).1 = getS) && !decide ((lineA (lines.headD [])).1 = postS)) = true then (noReq, 405) else
    readB (lineA (lines.headD [])).1 (lineA (lines.headD [])).2.1 body es
def readP (raw : List UInt8) : Req × Int :=
  if 1048576 < raw.length then (noReq, 413) else readH (Lib.cut raw [13, 10, 13, 10]).2.2 (piecesL (Lib.cut raw [13, 10, 13, 10]).1 [13, 10]) (Lib.cut raw [13, 10, 13, 10]).2.1

/-- what Read hands back -/
def ReadR (w : World) (x : Req × Int) (r : Value) (w' : World) : Prop := Ext w w' ∧ ∃ u, r = .tuple ⟨[.agg ⟨reqC x.1.1 x.1.2.1 u⟩, .int .i64 x.2]⟩ ∧ Labs w' u x.1.2.2
theorem readR_no {w w' : World} {st : Int} (h : Ext w w') : ReadR w (noReq, st) (.tuple ⟨[.agg ⟨reqC [] [] (.slice none 0 0)⟩, .int .i64 st]⟩) w' :=
  ⟨h, _, rfl, Sli.nil _ _⟩
theorem lineA_len (s : List UInt8) : (lineA s).1.length ≤ s.length ∧ (lineA s).2.1.length ≤ s.length := by
  have h1 := cut_len s [32]
  have h2 := cut_len (Lib.cut s [32]).2.1 [32]
  exact ⟨h1.1, Nat.le_trans h2.1 h1.2⟩

theorem read_ok (v : Value) (raw : List UInt8) (w : World) (hv : By w v raw) (hM : MaxC w) (hT : Tabs w) :
    Ret Tryz.prog 33 ⟨[v]⟩ w (ReadR w (readP raw)) := by
  have hbd := Sli.bound hv
  rw [bysC_len] at hbd
  refine ret_of_G Tryz.func33 rfl Tryz.ntmps33 rfl ?_
  simp only [argEnv]
  refine rn ?_
  refine sAl tb ?_
  intro w1 hb1 hs1 hx1
  have hv1 := hv.to hx1
  refine rn ?_
  rw [bysC_len]
  refine rn ?_
  obtain ⟨B, hB⟩ : ∃ B, B = w.heap.size := ⟨_, rfl⟩
  rw [← hB] at hb1 ⊢
  first | refine G.condD rfl (fun hc => ?_) (fun hc => ?_) | refine G.condN rfl (fun hc => ?_) (fun hc => ?_) | refine G.cond rfl (fun hc => ?_) (fun hc => ?_)
  · have he : readP raw = (noReq, 413) := by unfold readP; rw [if_pos (by omega)]
    rw [he]
    refine rn ?_
    refine sSt tb ?_ (vs := reqC [] [] (.slice none 0 0)) (hv := rfl) (hb := hb1) (h1 := by simp [Value.oneCell', S, reqC])
    intro w2 hb2 hw2
    refine rn ?_
    refine G.retAT tb rfl rfl hb2.cells (readR_no (Below.wr hx1 hw2 (by omega))) rfl rfl rfl rfl rfl rfl rfl
  · have hrl : raw.length ≤ 1048576 := by omega
    have he : readP raw = readH (Lib.cut raw [13, 10, 13, 10]).2.2 (piecesL (Lib.cut raw [13, 10, 13, 10]).1 [13, 10]) (Lib.cut raw [13, 10, 13, 10]).2.1 := by unfold readP; rw [if_neg (by omega)]
    rw [he]
    clear he
    have hcl := cut_len raw [13, 10, 13, 10]
    refine rn ?_
    refine sByS tb hv1 ?_
    refine rn ?_
    refine sCall c51 (cut_ok raw [13, 10, 13, 10] w1 (by omega) (hM.to hx1)) ?_
    rintro _ w2 ⟨rfl, hx2⟩
    have hx02 := hx1.trans hx2
    generalize (Lib.cut raw [13, 10, 13, 10]).1 = top at hcl ⊢
    generalize (Lib.cut raw [13, 10, 13, 10]).2.1 = body at hcl ⊢
    generalize (Lib.cut raw [13, 10, 13, 10]).2.2 = ok at ⊢
    refine rn ?_
    refine sCall c52 (split_ok top [13, 10] w2 (by omega) (by simp) (hM.to hx02)) ?_
    rintro lv w3 ⟨hlv, hx3⟩
    have hx03 := hx02.trans hx3
    have hpl : ∀ p ∈ piecesL top [13, 10], p.length ≤ 1048576 := fun p hp => Nat.le_trans (piecesL_len hp) (by omega)
    have hpn := piecesL_ne top [13, 10]
    generalize piecesL top [13, 10] = lines at hlv hpl hpn ⊢
    obtain ⟨l0, rest, rfl⟩ : ∃ l0 rest, lines = l0 :: rest := by
      cases lines with
      | nil => exact absurd rfl hpn
      | cons a r => exact ⟨a, r, rfl⟩
    have hget0 : ((l0 :: rest).map strC)[0]? = some (strC l0) := rfl
    have hl0 := hpl l0 (by simp)
    have hlnb := hlv.bound
    rw [List.length_map] at hlnb
    unfold readH
    rw [show (l0 :: rest).tail = rest from rfl, show (l0 :: rest).headD [] = l0 from rfl]
    refine rn ?_
    refine sIa tb 0 ?_ (hj := fun _ => ⟨rfl, by simp⟩)
    refine rn ?_
    refine sCall c53 (first_ok l0 w3 (by omega) (hM.to hx03)) ?_
    rintro _ w4 ⟨rfl, hx4⟩
    have hx04 := hx03.trans hx4
    have hlal := lineA_len l0
    generalize (lineA l0).1 = method at hlal ⊢
    generalize (lineA l0).2.1 = target at hlal ⊢
    generalize (lineA l0).2.2 = fine at ⊢
    refine rn ?_
    refine GL.cons (Step.sliceVl tb 1 rfl (Op1.of rfl (by first | exact fun _ => rfl | exact fun h => h | exact fun h => bL h | exact fun h => bL (bL h) | exact fun h => bL (bL (bL h)))) (Op1.of rfl (by first | exact fun _ => rfl | exact fun h => h | exact fun h => bL h | exact fun h => bL (bL h) | exact fun h => bL (bL (bL h)))) rfl rfl (fun _ => ⟨_, hlv⟩) (fun _ => ⟨rfl, by simp⟩) rfl ?_)
    have hsub : Strs w4 (subS lv 1 1 ((l0 :: rest).map strC).length) rest := by
      have := (hlv.to hx4).sub (l := 1) (h := ((l0 :: rest).map strC).length) (by simp) (Nat.le_refl _)
      have e : (((l0 :: rest).map strC).drop 1).take (((l0 :: rest).map strC).length - 1) = rest.map strC := by
        simp only [List.map_cons, List.drop_succ_cons, List.drop_zero, List.length_cons, Nat.add_sub_cancel, List.take_length]
      rw [e] at this
      exact this
    refine sCall c54 (headers_ok _ rest w4 hsub (fun s hs => Nat.le_trans (hpl s (by simp [hs])) (by omega)) (hM.to hx04)) ?_
    rintro r w5 ⟨hx5, hr⟩
    have hx05 := hx04.trans hx5
    have hb5 : Bx w5 B _ := ((((hb1.to hx2).to hx3).to hx4).to hx5)
    cases hh : headP [] rest with
    | none =>
      rw [hh] at hr
      subst hr
      refine rn ?_
      refine sCallx (v := .bool true) (vs := [.map none, S body]) c55 ?_ ?_
      · intro hc
        simp [cv] at hc
      intro w6 hx6
      refine rn ?_
      first | refine G.condD rfl (fun hc => ?_) (fun hc => ?_) | refine G.condN rfl (fun hc => ?_) (fun hc => ?_) | refine G.cond rfl (fun hc => ?_) (fun hc => ?_)
      · refine rn ?_
        refine sSt tb ?_ (vs := reqC [] [] (.slice none 0 0)) (hv := rfl) (hb := hb5.to hx6) (h1 := by simp [Value.oneCell', S, reqC])
        intro we hbe hwe
        refine rn ?_
        exact G.retAT tb rfl rfl hbe.cells (readR_no (Below.wr (hx05.trans hx6) hwe (by omega))) rfl rfl rfl rfl rfl rfl rfl
      · simp at hc
    | some es =>
      rw [hh] at hr
      obtain ⟨mb, rfl, hm5⟩ := hr
      have hgb := headP_bd (L := 1048576) rest [] es (fun s hs => hpl s (by simp [hs])) (fun x u h => by cases h) hh
      simp only []
      refine rn ?_
      refine sCallq c55 (fun _ => length_ok mb es body w5 hm5 (by omega) (fun v h => by have := hgb _ _ h; omega)) ?_
      refine rn ?_
      first | refine G.condD rfl (fun hc => ?_) (fun hc => ?_) | refine G.condN rfl (fun hc => ?_) (fun hc => ?_) | refine G.cond rfl (fun hc => ?_) (fun hc => ?_)
      · have hc' : ((!ok || !fine) || !lengthP es body) = true := by simpa using hc
        rw [if_pos hc']
        refine rn ?_
        refine sSt tb ?_ (vs := reqC [] [] (.slice none 0 0)) (hv := rfl) (hb := hb5) (h1 := by simp [Value.oneCell', S, reqC])
        intro we hbe hwe
        refine rn ?_
        exact G.retAT tb rfl rfl hbe.cells (readR_no (Below.wr (hx05) hwe (by omega))) rfl rfl rfl rfl rfl rfl rfl
      · have hc' : ((!ok || !fine) || !lengthP es body) = false := by simpa using hc
        rw [if_neg (by rw [hc']; simp)]
        clear hc hc'
        refine rn ?_
        first | refine G.condD rfl (fun hc => ?_) (fun hc => ?_) | refine G.condN rfl (fun hc => ?_) (fun hc => ?_) | refine G.cond rfl (fun hc => ?_) (fun hc => ?_)
        · rw [if_pos (by exact hc)]
          refine rn ?_
          refine sSt tb ?_ (vs := reqC [] [] (.slice none 0 0)) (hv := rfl) (hb := hb5) (h1 := by simp [Value.oneCell', S, reqC])
          intro we hbe hwe
          refine rn ?_
          exact G.retAT tb rfl rfl hbe.cells (readR_no (Below.wr (hx05) hwe (by omega))) rfl rfl rfl rfl rfl rfl rfl
        · rw [if_neg (by rw [show (!decide (method = getS) && !decide (method = postS)) = false from hc]; simp)]
          clear hc
          unfold readB
          have hcq := cut_len target [63]
          refine rn ?_
          refine sCall c51 (cut_ok target [63] w5 (by omega) (hM.to hx05)) ?_
          rintro _ w6 ⟨rfl, hx6⟩
          have hx06 := hx05.trans hx6
          generalize (Lib.cut target [63]).1 = whr at hcq ⊢
          generalize (Lib.cut target [63]).2.1 = pcs at hcq ⊢
          refine rn ?_
          refine sCall c56 (decode_ok whr false w6 (by omega)) ?_
          rintro r1 w7 ⟨hr1, hx7⟩
          have hx07 := hx06.trans hx7
          cases hd : decP false whr with
          | none =>
            rw [hd] at hr1
            subst hr1
            refine rn ?_
            refine sCall c57 (params_ok pcs w7 (by omega) (hM.to hx07)) ?_
            rintro r2 w8 ⟨hx8, hr2⟩
            have hx08 := hx07.trans hx8
            have hr2' : ∃ u e, r2 = .tuple ⟨[u, .int .i64 e]⟩ := by
              cases hp : paramsL (piecesL pcs [38]) with
              | none => rw [hp] at hr2; exact ⟨_, _, hr2⟩
              | some b => rw [hp] at hr2; obtain ⟨u, h1, _⟩ := hr2; exact ⟨_, _, h1⟩
            obtain ⟨u, e, rfl⟩ := hr2'
            clear hr2
            refine rn ?_
            refine sCallx (v := .bool true) (vs := [S [], u]) c58 ?_ ?_
            · intro hc
              simp [cv] at hc
            intro w9 hx9
            refine rn ?_
            have hb9 := ((((hb5.to hx6).to hx7).to hx8).to hx9)
            have hx09 := hx08.trans hx9
            refine sSt tb ?_ (vs := reqC [] [] (.slice none 0 0)) (hv := rfl) (hb := hb9) (h1 := by simp [Value.oneCell', S, reqC])
            intro we hbe hwe
            refine rn ?_
            exact G.retAT tb rfl rfl hbe.cells (readR_no (Below.wr (hx09) hwe (by omega))) rfl rfl rfl rfl rfl rfl rfl
          | some path =>
            rw [hd] at hr1
            subst hr1
            have hpath := decP_len false _ _ _ (Nat.le_refl _) hd
            refine rn ?_
            refine sCall c57 (params_ok pcs w7 (by omega) (hM.to hx07)) ?_
            rintro r2 w8 ⟨hx8, hr2⟩
            have hx08 := hx07.trans hx8
            have hb8 := (((hb5.to hx6).to hx7).to hx8)
            have hm8 := (((hm5.to hx6).to hx7).to hx8)
            cases hp : paramsL (piecesL pcs [38]) with
            | none =>
              rw [hp] at hr2
              subst hr2
              refine rn ?_
              refine sCallx (v := .bool true) (vs := [S path, .slice none 0 0]) c58 ?_ ?_
              · intro hc
                simp [cv] at hc
              intro w9 hx9
              refine rn ?_
              have hx09 := hx08.trans hx9
              refine sSt tb ?_ (vs := reqC [] [] (.slice none 0 0)) (hv := rfl) (hb := hb8.to hx9) (h1 := by simp [Value.oneCell', S, reqC])
              intro we hbe hwe
              refine rn ?_
              exact G.retAT tb rfl rfl hbe.cells (readR_no (Below.wr (hx09) hwe (by omega))) rfl rfl rfl rfl rfl rfl rfl
            | some ls =>
              rw [hp] at hr2
              obtain ⟨u, rfl, hu8⟩ := hr2
              obtain ⟨hcnt, hlb⟩ := paramsL_bd (L := 1048576) _ _ (fun p hq => Nat.le_trans (piecesL_len hq) (by omega)) hp
              have hpc := piecesL_cnt pcs [38]
              simp only []
              refine rn ?_
              refine sCallx (vs := [S path, u]) c58 (fun _ => text_ok path u ls w8 (by omega) hu8.sli (fun x hx => by have := hlb x hx; omega) (hT.to hx08)) ?_
              intro w9 hx9
              have hx09 := hx08.trans hx9
              have hb9 := hb8.to hx9
              have hm9 := hm8.to hx9
              have hu9 := hu8.to hx9
              refine rn ?_
              first | refine G.condD rfl (fun hc => ?_) (fun hc => ?_) | refine G.condN rfl (fun hc => ?_) (fun hc => ?_) | refine G.cond rfl (fun hc => ?_) (fun hc => ?_)
              · have ht : textP path ls = false := by simpa using hc
                rw [if_pos ht]
                refine rn ?_
                refine sSt tb ?_ (vs := reqC [] [] (.slice none 0 0)) (hv := rfl) (hb := hb9) (h1 := by simp [Value.oneCell', S, reqC])
                intro we hbe hwe
                refine rn ?_
                exact G.retAT tb rfl rfl hbe.cells (readR_no (Below.wr (hx09) hwe (by omega))) rfl rfl rfl rfl rfl rfl rfl
              · have ht : textP path ls = true := by simpa using hc
                rw [if_neg (by rw [ht]; simp)]
                clear hc ht
                have hctl : ((aget es ctS).getD []).length ≤ 1048576 := by
                  cases hg : aget es ctS with
                  | none => simp
                  | some q => exact hgb _ _ hg
                have hkl := cut_len ((aget es ctS).getD []) [59]
                refine rn ?_
                refine sLk tb (es := es) ?_
                refine rn ?_
                refine sCall c51 (cut_ok ((aget es ctS).getD []) [59] w9 (by omega) (hM.to hx09)) ?_
                rintro _ w10 ⟨rfl, hx10⟩
                have hx010 := hx09.trans hx10
                have hb10 := hb9.to hx10
                have hu10 := hu9.to hx10
                generalize (Lib.cut ((aget es ctS).getD []) [59]).1 = kind at hkl ⊢
                refine rn ?_
                refine sCallx (vs := [S kind, S [32]]) c59 (fun _ => trim_ok kind w10 (by omega)) ?_
                intro w11 hx11
                have hx011 := hx010.trans hx11
                have hb11 := hb10.to hx11
                have hu11 := hu10.to hx11
                have hs7 := hx07.size
                refine rn ?_
                first | refine G.condD rfl (fun hc => ?_) (fun hc => ?_) | refine G.condN rfl (fun hc => ?_) (fun hc => ?_) | refine G.cond rfl (fun hc => ?_) (fun hc => ?_)
                · rw [if_pos (by exact hc)]
                  clear hc
                  refine rn ?_
                  refine sCall c57 (params_ok body w11 (by omega) (hM.to hx011)) ?_
                  rintro r3 w12 ⟨hx12, hr3⟩
                  have hx012 := hx011.trans hx12
                  have hb12 := hb11.to hx12
                  have hu12 := hu11.to hx12
                  cases hq : paramsL (piecesL body [38]) with
                  | none =>
                    rw [hq] at hr3
                    subst hr3
                    refine rn ?_
                    refine sCallx (v := .bool true) (vs := [S [], .slice none 0 0]) c58 ?_ ?_
                    · intro hc
                      simp [cv] at hc
                    intro w13 hx13
                    refine rn ?_
                    refine sSt tb ?_ (vs := reqC [] [] (.slice none 0 0)) (hv := rfl) (hb := hb12.to hx13) (h1 := by simp [Value.oneCell', S, reqC])
                    intro we hbe hwe
                    refine rn ?_
                    exact G.retAT tb rfl rfl hbe.cells (readR_no (Below.wr (hx012.trans hx13) hwe (by omega))) rfl rfl rfl rfl rfl rfl rfl
                  | some ms =>
                    rw [hq] at hr3
                    obtain ⟨u2, rfl, hu2⟩ := hr3
                    obtain ⟨hcnt2, hlb2⟩ := paramsL_bd (L := 1048576) _ _ (fun p hq => Nat.le_trans (piecesL_len hq) (by omega)) hq
                    have hpc2 := piecesL_cnt body [38]
                    simp only []
                    refine rn ?_
                    refine sCallx (vs := [S [], u2]) c58 (fun _ => text_ok [] u2 ms w12 (by simp) hu2.sli (fun x hx => by have := hlb2 x hx; omega) (hT.to hx012)) ?_
                    intro w13 hx13
                    have hx013 := hx012.trans hx13
                    have hb13 := hb12.to hx13
                    have hu13 := hu12.to hx13
                    have hu213 := hu2.to hx13
                    refine rn ?_
                    first | refine G.condD rfl (fun hc => ?_) (fun hc => ?_) | refine G.condN rfl (fun hc => ?_) (fun hc => ?_) | refine G.cond rfl (fun hc => ?_) (fun hc => ?_)
                    · have ht : textP [] ms = false := by simpa using hc
                      rw [if_pos ht]
                      refine rn ?_
                      refine sSt tb ?_ (vs := reqC [] [] (.slice none 0 0)) (hv := rfl) (hb := hb13) (h1 := by simp [Value.oneCell', S, reqC])
                      intro we hbe hwe
                      refine rn ?_
                      exact G.retAT tb rfl rfl hbe.cells (readR_no (Below.wr (hx013) hwe (by omega))) rfl rfl rfl rfl rfl rfl rfl
                    · have ht : textP [] ms = true := by simpa using hc
                      rw [if_neg (by rw [ht]; simp)]
                      clear hc ht
                      have hz13 := hx013.size
                      have hz7 : w7.heap.size ≤ w13.heap.size := ((((((hx8.trans hx9).trans hx10).trans hx11).trans hx12).trans hx13)).size
                      refine rn ?_
                      refine sApp tb hu13 hu213.sli ?_ (h1 := lab1 _) (hB := by omega)
                      intro v3 w14 ho3 hg3
                      have hB7 : B < w7.heap.size := ((((hb5.to hx6).to hx7)).lt)
                      have hb14 := hb13.grew hg3 (hu13.ne hB7)
                      have hx014 : Ext w w14 := (hg3.below _ ((Below.refl _ _).mono (by omega))).mono (by omega) |> fun h => Below.trans hx013 h
                      have ho3' : LO w14 w7.heap.size v3 (ls ++ ms) := by unfold LO; rw [List.map_append]; exact ho3
                      have ho3s := ho3'.sli
                      obtain ⟨ua, uc, hue, -⟩ := ho3s.len
                      subst hue
                      refine rn ?_
                      refine sSt tb ?_ (vs := reqC method path (.slice ua _ uc)) (hv := rfl) (hb := hb14) (h1 := by
                        have := (ho3').sli.one
                        simp only [reqC, List.mem_cons, List.not_mem_nil, or_false]
                        rintro x (rfl | rfl | rfl)
                        · rfl
                        · rfl
                        · exact this _ (by simp))
                      intro we hbe hwe
                      refine rn ?_
                      exact G.retAT tb rfl rfl hbe.cells ⟨Below.wr (hx014) hwe (by omega), _, rfl, (Owns.wr2 (ho3') hwe (ho3'.ne hB7)).sli⟩ rfl rfl rfl rfl rfl rfl rfl
                · rw [if_neg (by rw [show (decide (method = postS) && decide (Lib.trimB kind 32 = formS)) = false from hc]; simp)]
                  clear hc
                  have hB7 : B < w7.heap.size := ((((hb5.to hx6).to hx7)).lt)
                  have hus := hu11.sli
                  obtain ⟨ua, uc, hue, -⟩ := hus.len
                  subst hue
                  refine rn ?_
                  refine sSt tb ?_ (vs := reqC method path (.slice ua _ uc)) (hv := rfl) (hb := hb11) (h1 := by
                    have := (hu11).sli.one
                    simp only [reqC, List.mem_cons, List.not_mem_nil, or_false]
                    rintro x (rfl | rfl | rfl)
                    · rfl
                    · rfl
                    · exact this _ (by simp))
                  intro we hbe hwe
                  refine rn ?_
                  exact G.retAT tb rfl rfl hbe.cells ⟨Below.wr (hx011) hwe (by omega), _, rfl, (Owns.wr2 (hu11) hwe (hu11.ne hB7)).sli⟩ rfl rfl rfl rfl rfl rfl rfl
end Go.Proofs.YtlaingmhdgpkdaaGreatDoor
end
section
open Go Go.Vg Go.RowKit Go.Proofs Go.Proofs.YtlaingmhdgpkdaaGreatDoor
namespace Go.Proofs.YtlaingmhdgpkdaaGreatDoor

def wakeRaw : List UInt8 := [71, 69, 84, 32, 47, 97, 63, 120, 61, 49, 43, 50, 32, 72, 84, 84, 80, 47, 49, 46, 49, 13, 10, 13, 10]
theorem wake_read : readP wakeRaw = ((getS, [47, 97], [([120], [49, 32, 50])]), 200) := by decide +kernel
theorem wake_get : firstP (allP [([120], [49, 32, 50])] [120]) = [49, 32, 50] := by decide +kernel
theorem wakes_ok (w : World) (hM : MaxC w) (hT : Tabs w) : Ret Tryz.prog 10 ⟨[]⟩ w fun r w' => r = .bool true ∧ Ext w w' := by
  refine ret_of_G Tryz.func10 rfl Tryz.ntmps10 rfl ?_
  simp only [argEnv]
  refine rn ?_
  refine sBs' tb (bysC wakeRaw) ?_ (hkl := bysC_k _)
  intro v1 w1 ho1 hs1 hx1
  refine GL.cons (Step.markS tb rfl (Op1.of rfl (by first | exact fun _ => rfl | exact fun h => h | exact fun h => bL h | exact fun h => bL (bL h) | exact fun h => bL (bL (bL h)))) rfl rfl ho1 (by decide) rfl ?_)
  intro w2 hv2 hx2
  have hx02 : Ext w w2 := Below.trans hx1 hx2
  refine rn ?_
  refine sCall c33 (read_ok v1 wakeRaw w2 hv2 (hM.to hx02) (hT.to hx02)) ?_
  rw [wake_read]
  rintro r w3 ⟨hx3, u, rfl, hu⟩
  have hx03 := hx02.trans hx3
  refine rn ?_
  refine sAl tb ?_
  intro w4 hb4 hs4 hx4
  refine sSt tb ?_ (vs := reqC getS [47, 97] u) (hv := rfl) (hb := hb4) (h1 := by
    have := hu.one
    simp only [reqC, List.mem_cons, List.not_mem_nil, or_false]
    rintro x (rfl | rfl | rfl)
    · rfl
    · rfl
    · exact this _ (by simp))
  intro w5 hb5 hw5
  have hx45 : Ext w3 w5 := Below.wr hx4 hw5 (Nat.le_refl _)
  have hx05 := hx03.trans hx45
  have hu5 := hu.to hx45
  refine rn ?_
  refine sCallx (vs := [.agg ⟨reqC getS [47, 97] u⟩, S [120]]) c34 (fun _ => get_ok getS [47, 97] [120] u [([120], [49, 32, 50])] w5 hu5 (by simp)) ?_
  rw [wake_get]
  intro w6 hx6
  refine rn ?_
  refine GL.cons (Step.on rfl rfl (Step.callF rfl rfl rfl c16 rfl (answer_ok 404 [120] w6 (by decide) (by decide) (by decide)) ?_))
  rintro r w7 ⟨hr, hx7⟩
  refine sByS tb hr ?_
  refine rn ?_
  refine G.ret1 rfl rfl rfl rfl ?_
  exact ⟨congrArg Value.bool (by decide +kernel), (hx05.trans hx6).trans hx7⟩
end Go.Proofs.YtlaingmhdgpkdaaGreatDoor
end
section
open Go Go.Vg Go.RowKit Go.Proofs Go.Proofs.YtlaingmhdgpkdaaGreatDoor
namespace Go.Proofs.YtlaingmhdgpkdaaGreatDoor
open Go.Nm
open Num

theorem times_law (va : Value) (ts : List (List UInt8)) (w : World) (hva : Strs w va ts) (hza : ∀ x ∈ ts, x.length ≤ 9223372036854775807) (hM : MaxC w) (hT : Tabs w) :
    Ret Tryz.prog 5 ⟨[va]⟩ w fun r w' => r = .bool true ∧ Ext w w' := by
  have hlm : (ts.map strC).length = ts.length := List.length_map ..
  have hva' : Sli w va 1 (ts.map strC) := hva
  have hbb := hva'.bound
  rw [hlm] at hbb
  refine ret_of_G Tryz.func5 rfl Tryz.ntmps5 rfl ?_
  simp only [argEnv]
  refine rn ?_
  refine (G.loop (fun i : Nat => [(0, none, va), (3, none, .int .i64 i)]) (fun i W => Ext w W ∧ i ≤ ts.length) (fun i => ts.length - i) 0 (by repeat (first | exact Sub.nil _ | refine Sub.cons rfl ?_)) ⟨Ext.refl _, Nat.zero_le _⟩ ?_)
  rintro i W ⟨hx, hi⟩
  have hv1 := hva'.to hx
  refine rn ?_
  rw [hlm]
  refine rn ?_
  rw [show (decide (((i : Nat) : Int) < ((ts.length : Nat) : Int)) && decide (((i : Nat) : Int) < 10)) = decide (i < ts.length ∧ i < 10) by
    rw [Bool.eq_iff_iff]; simp only [Bool.and_eq_true, decide_eq_true_eq]; omega]
  by_cases hc : i < ts.length ∧ i < 10
  rotate_left
  · rw [decide_eq_false hc]
    refine rn ?_
    refine sCallx (vs := []) c10 (fun _ => wakes_ok W (hM.to hx) (hT.to hx)) ?_
    intro W7 hx7
    refine rn ?_
    refine G.ret1 rfl rfl rfl rfl ?_
    exact ⟨rfl, hx.trans hx7⟩
  rw [decide_eq_true hc]
  obtain ⟨hlt, h10⟩ := hc
  have hget : (ts.map strC)[i]? = some (strC ts[i]) := by rw [List.getElem?_map, List.getElem?_eq_getElem hlt]; rfl
  have hz := hza ts[i] (List.getElem_mem hlt)
  generalize ts[i] = s at hget hz
  refine rn ?_
  refine sIa tb i ?_ (hj := fun _ => ⟨rfl, by rw [hlm]; exact hlt⟩)
  refine rn ?_
  refine sCall c23 (timeP_ok s W hz) ?_
  rintro _ W1 ⟨rfl, hx1⟩
  have hx01 := hx.trans hx1
  have hv2 := hva'.to hx01
  clear hv1
  obtain ⟨n1, e1, hf1, _⟩ := timeV_form (timeP s)
  rw [hf1]
  refine rn ?_
  refine sIa tb i ?_ (hj := fun _ => ⟨rfl, by rw [hlm]; exact hlt⟩)
  refine rn ?_
  refine sCall c24 (timeR_ok s W1 hz) ?_
  rintro _ W2 ⟨rfl, hx2⟩
  have hx02 := hx01.trans hx2
  have hv3 := hva'.to hx02
  clear hv2
  rw [hf1]
  refine rn ?_
  refine sIa tb i ?_ (hj := fun _ => ⟨rfl, by rw [hlm]; exact hlt⟩)
  refine rn ?_
  refine sCall c25 (stepW_ok s W2 hz) ?_
  rintro _ W3 ⟨rfl, hx3⟩
  have hx03 := hx02.trans hx3
  have hv4 := hva'.to hx03
  clear hv3
  obtain ⟨n2, e2, hf2, _⟩ := timeV_form (stepP s)
  rw [hf2]
  refine rn ?_
  refine sIa tb i ?_ (hj := fun _ => ⟨rfl, by rw [hlm]; exact hlt⟩)
  refine rn ?_
  refine sCall c26 (stepR_ok s W3 hz) ?_
  rintro _ W4 ⟨rfl, hx4⟩
  have hx04 := hx03.trans hx4
  clear hv4
  rw [hf2]
  refine rn ?_
  rw [decide_eq_true (p := n1 = n1) rfl, decide_eq_true (p := e1 = e1) rfl, decide_eq_true (p := n2 = n2) rfl, decide_eq_true (p := e2 = e2) rfl]
  refine rn ?_
  refine sAd tb (r := ((i + 1 : Nat) : Int)) ?_
  refine rn ?_
  exact G.lp (x := i) (i + 1) (by repeat (first | exact Sub.nil _ | refine Sub.cons rfl ?_)) ⟨hx04, hlt⟩ (by omega)
end Go.Proofs.YtlaingmhdgpkdaaGreatDoor
end
section
namespace Go.Vg
open Go.RowKit Go.WideShapes Go.ChangeShapes

theorem open_sli {H : Type} {enc : TypeId × Value → H} {P : Program} {w : World} {sp : Nat → Bool} {hd : Bool} {t e k b0 : Nat} {α : Type} {v : Value} {d : DataW H} {p : List MemPlace} (dec : α → List Value) (Q : α → Prop)
    (ht : P.underlying t = some (.slice e)) (hc : P.cellsOf e = k) (hel : ∀ n cs x, DataW.trod enc P w 0 sp hd n e cs = some x → ∃ a, cs = dec a ∧ Q a)
    (hval : Value.okWide P w .any b0 t v) (h : DataW.Trod enc P w 0 sp hd t v d p) : ∃ ls : List α, Sli w v k (ls.map dec) ∧ ∀ a ∈ ls, Q a := by
  have hspot : ∀ a l c, v = .slice (some a) l c → a.spot = none := by
    rintro a l c rfl
    simp only [Value.okWide, ht, Cell.okWide, Cell.ok, World.has] at hval
    exact hval.2.2.2.1
  obtain ⟨a0, len, cap, rfl⟩ := okWide_slice ht hval
  obtain ⟨fuel, h⟩ := h
  rcases Go.Deep.open_slice ht h with ⟨h1, _⟩ | ⟨a, len', cap', m, n, D, Pl, h1, hb, hl, hm, hmm, _, hx⟩
  · have h2 : Value.slice a0 len cap = .slice none 0 0 := by simpa [Value.cells] using h1
    exact ⟨[], .inl ⟨h2, rfl⟩, by simp⟩
  · have h2 : Value.slice a0 len cap = .slice (some a) len' cap' := by simpa [Value.cells] using h1
    cases h2
    have hlm : len ≤ m := by rw [hmm]; split <;> omega
    have each : ∀ i, i < len → ∃ x : α, w.cells? 0 (a.add (i * k)) k = some (dec x) ∧ Q x := by
      intro i hi
      obtain ⟨cs, h3, h4⟩ := hx i (by omega)
      rw [hc] at h3
      obtain ⟨x, rfl, hq⟩ := hel n cs _ h4
      exact ⟨x, h3, hq⟩
    have build : ∀ l, l ≤ len → ∃ ls : List α, ls.length = l ∧ (∀ i x, ls[i]? = some x → w.cells? 0 (a.add (i * k)) k = some (dec x) ∧ Q x) := by
      intro l
      induction l with
      | zero => intro _; exact ⟨[], rfl, by simp⟩
      | succ l ih =>
        intro hl'
        obtain ⟨ls, h5, h6⟩ := ih (by omega)
        obtain ⟨x, h7⟩ := each l (by omega)
        refine ⟨ls ++ [x], by simp [h5], fun i y hy => ?_⟩
        by_cases hi : i < ls.length
        · rw [List.getElem?_append_left hi] at hy; exact h6 i y hy
        · have hil : i = l := by
            have := (List.getElem?_eq_some_iff.1 hy).1
            simp at this; omega
          subst hil
          rw [List.getElem?_append_right (by omega), h5, Nat.sub_self] at hy
          cases hy; exact h7
    obtain ⟨ls, h5, h6⟩ := build len (Nat.le_refl _)
    refine ⟨ls, .inr ⟨a, cap, by rw [List.length_map, h5], hspot a len cap rfl, by rw [List.length_map, h5]; exact hl, ?_, ?_, ?_⟩, ?_⟩
    · intro x hx'
      obtain ⟨y, hy, rfl⟩ := List.mem_map.1 hx'
      obtain ⟨i, hi⟩ := List.getElem?_of_mem hy
      exact (World.cells?_some (h6 i y hi).1).2.1
    · intro i x hx' j u hu
      simp only [List.getElem?_map, Option.map_eq_some_iff] at hx'
      obtain ⟨y, hy, rfl⟩ := hx'
      obtain ⟨_, h8, h9⟩ := World.cells?_some (h6 i y hy).1
      have hj : j < k := by have := (List.getElem?_eq_some_iff.1 hu).1; omega
      have := h9 j hj
      rw [hu, Addr.add_add a (hspot a len cap rfl)] at this
      exact this
    · rw [List.length_map, h5]; unfold maxLen at hm; omega
    · intro x hx'
      obtain ⟨i, hi⟩ := List.getElem?_of_mem hx'
      exact (h6 i x hi).2
end Go.Vg
end
section
namespace Go.Vg
open Go.RowKit Go.WideShapes Go.ChangeShapes

/-- a value fits its type; kept folded -/
structure OkW (P : Program) (w : World) (b t : Nat) (v : Value) : Prop where
  ok : Value.okWide P w .any b t v
theorem open_rows {H : Type} {enc : TypeId × Value → H} {P : Program} {w : World} {sp : Nat → Bool} {hd : Bool} {t e k b0 : Nat} {α : Type} {v : Value} {d : DataW H} {p : List MemPlace} (dec : α → List Value) (Q : α → Prop)
    (ht : P.underlying t = some (.slice e)) (hc : P.cellsOf e = k) (hel : ∀ n cs x, DataW.trod enc P w 0 sp hd n e cs = some x → ∃ a, cs = dec a ∧ Q a)
    (hval : OkW P w b0 t v) (h : DataW.Trod enc P w 0 sp hd t v d p) : ∃ ls : List α, Sli w v k (ls.map dec) ∧ ∀ a ∈ ls, Q a := open_sli dec Q ht hc hel hval.ok h
theorem open_str {H : Type} {enc : TypeId × Value → H} {P : Program} {w : World} {b : Nat} {sp : Nat → Bool} {hd : Bool} {t n : Nat} {cs : List Value} {x : DataW H × List MemPlace}
    (ht : P.underlying t = some .string) (h : DataW.trod enc P w b sp hd n t cs = some x) : ∃ s : List UInt8, cs = [S s] ∧ s.length ≤ 9223372036854775807 := by
  obtain ⟨s, rfl, _, hl⟩ := DataW.trod_string ht h
  exact ⟨s.data.toList, rfl, hl⟩
theorem trodAll_stays {H : Type} {enc : TypeId × Value → H} {P : Program} (hl : laidOutB P = true) {W W' : World} {sp : Nat → Bool} (hx : Below W.heap.size W W') :
    ∀ {ts : List TypeId} {vs : List Value} {ds : List (DataW H)} {ps : List MemPlace}, (ts.all fun t => P.readableRec t && decide (t < P.types.size)) = true → DataW.TrodAll enc P W 0 (fun _ => true) true ts vs ds ps →
      (∀ p ∈ ps, p.block < W.heap.size) → (∀ p ∈ ps, sp p.block = true) → DataW.TrodAll enc P W' 0 sp true ts vs ds ps
  | [], vs, ds, ps, _, h, _, _ => by
    obtain ⟨rfl, rfl, rfl⟩ := trodAll_nil h
    exact trodAll_mk0
  | t :: ts, vs, ds, ps, ht, h, hlt, hsp => by
    simp only [List.all_cons, Bool.and_eq_true, decide_eq_true_eq] at ht
    obtain ⟨v, vs, d, ds, p, q, rfl, rfl, rfl, h0, h1⟩ := trodAll_cons h
    have h0' := WideElems.Trod_stays (sp' := sp) hl ht.1.1 ht.1.2 h0 (fun x hx' => hx.same (hlt x (by simp [hx']))) (fun x hx' => hsp x (by simp [hx']))
    exact trodAll_cons_mk h0' (trodAll_stays hl hx ht.2 h1 (fun x hx' => hlt x (by simp [hx'])) (fun x hx' => hsp x (by simp [hx'])))

/-- a law's end: true, and every argument reads as it did -/
theorem law_post {H : Type} {enc : TypeId × Value → H} {P : Program} {f : Func} {s : ChangeSpec} {tb : TypeId} {W W' : World} {args : Array Value} {ds gs : List (DataW H)} {before : List MemPlace}
    (hl : laidOutB P = true) (hts : (f.params.toList.all fun t => P.readableRec t && decide (t < P.types.size)) = true) (hr : f.resultTypes = #[tb]) (htb : P.underlying tb = some .bool) (hv : s.vars = [])
    (hW : DataW.Whole enc P f.params.toList s.vars false W args.toList ds gs before)
    (hfn : s.fn H ds = { results := [.lit (.bool true)], args := ds })
    (hx : Below W.heap.size W W') : s.post enc P f false true false false W args (.bool true) W' := by
  have hlt : ∀ p ∈ before, p.block < W.heap.size := fun p hp => hW.lt p hp
  have hW' := hW
  obtain ⟨p, q, hA, hV, rfl, hz, hn⟩ := hW
  rw [hv] at hV
  obtain ⟨rfl, rfl⟩ := trodVars_none hV
  have hfn' : s.fn H (ds ++ []) = { results := [.lit (.bool true)], args := ds } := by rw [List.append_nil]; exact hfn
  have hA' : ∀ sp : Nat → Bool, (∀ x ∈ p ++ [], sp x.block = true) → DataW.TrodAll enc P W' 0 sp true f.params.toList args.toList (s.fn H (ds ++ [])).args p := by
    intro sp hsp
    rw [hfn']
    exact trodAll_stays hl hx hts hA (fun x hx' => hlt x (by simp [hx'])) (fun x hx' => hsp x (by simp [hx']))
  refine ⟨ds, [], p ++ [], [], p, [], hW', ?_, hA' _ (fun x hx' => by simpa using hlt x hx'), ?_, World.keptBut_mono (fun x hx' => ⟨hx', ?_⟩) (hx.frame (· ∈ p ++ [])), fun h => by cases h⟩
  · rw [hfn', hr]
    exact trodAll_cons_mk (shut_bool htb _) trodAll_mk0
  · rw [hv, hfn']; rfl
  · exact .inr (by simpa using hx')
end Go.Vg
end
section
open Go Go.Vg Go.RowKit Go.Proofs Go.Proofs.YtlaingmhdgpkdaaGreatDoor
namespace Go.Proofs.YtlaingmhdgpkdaaGreatDoor
open Go.Lib Go.Shelf Go.ChangeShapes Go.WideShapes Go.ChangeAt

theorem own : ownKnob Tryz.prog.godebug = none := by kernel_rfl
theorem laidOut : laidOutB Tryz.prog = true := by kernel_rfl
theorem acc_eq : Rows.laid_unicode_utf8_acceptRanges (H := Unit) = Lib.acceptData := by kernel_rfl
theorem maxC {W : World} (hS : W.ShapedOpen Tryz.prog) : MaxC W :=
  cell_of_shapedOpen_int (t := 3) (zero := #[.int .i64 0]) hS (of_decide_eq_true (by kernel_rfl)) (by kernel_rfl) rfl (by kernel_rfl) (by kernel_rfl) (tb.ok _ _ rfl)

/-- a world that holds the tables -/
noncomputable def laidWorld (os : Os) : World :=
  let N := (World.settled Tryz.prog os).heap.size
  let w0 := World.holding Tryz.prog os ⟨#[.cells Lib.caseCells5 189, .cells #[.string ⟨#[98, 121, 116, 101, 115, 46, 66, 117, 102, 102, 101, 114, 58, 32, 116, 111, 111, 32, 108, 97, 114, 103, 101]⟩] 204], #[], []⟩
  let put (h : Array Obj) (g : Nat) (cs : Array Value) : Array Obj := h.modify g fun
    | .cells _ t frozen => .cells cs t frozen
    | o => o
  let h1 := put w0.heap 2 (Lib.firstTab.map fun z => Value.int .u8 z).toArray
  let h2 := put h1 3 ((List.range 16).flatMap fun i => [Value.int .u8 (Lib.accLo i), Value.int .u8 (Lib.accHi i)]).toArray
  let h3 := put h2 5 #[.slice (some ⟨N, 0, none⟩) 336 336]
  let h4 := put h3 1 #[.iface 190 (.pointer (some ⟨N + 1, 0, none⟩))]
  { w0 with heap := h4 }
theorem caseTypes : Great.CTypes Tryz.prog 182 189 187 145 21 :=
  ⟨Tryz.underlying182, Tryz.underlying189, Tryz.underlying187, Tryz.underlying145, Tryz.underlying21, by kernel_rfl, by kernel_rfl, by kernel_rfl, by kernel_rfl⟩
end Go.Proofs.YtlaingmhdgpkdaaGreatDoor
end
section
open Go Go.Vg Go.RowKit Go.Proofs Go.Proofs.YtlaingmhdgpkdaaGreatDoor
namespace Go.Proofs.YtlaingmhdgpkdaaGreatDoor
open Go.Lib Go.Shelf Go.ChangeShapes Go.WideShapes Go.ChangeAt

/-- texts that came in -/
theorem open_strs {H : Type} {enc : TypeId × Value → H} {w : World} {sp : Nat → Bool} {hd : Bool} {b : Nat} {v : Value} {d : DataW H} {p : List MemPlace}
    (hval : OkW Tryz.prog w b 28 v) (h : DataW.Trod enc Tryz.prog w 0 sp hd 28 v d p) : ∃ ss : List (List UInt8), Strs w v ss ∧ ∀ x ∈ ss, x.length ≤ 9223372036854775807 := by
  refine open_rows (t := 28) (e := 9) strC (fun s => s.length ≤ 9223372036854775807) (tb.ok _ _ rfl) (by kernel_rfl) (fun n cs x hx => ?_) hval h
  obtain ⟨a, ha, hla⟩ := open_str (tb.ok _ _ rfl) hx
  exact ⟨a, ha, hla⟩
def laidL3 : List (String × DataW Unit) := [("unicode/utf8.acceptRanges", Rows.laid_unicode_utf8_acceptRanges), ("unicode.CaseRanges", Rows.laid_unicode_CaseRanges), ("unicode/utf8.first", Rows.laid_unicode_utf8_first)]
theorem laidL3_eq : laidL3 = [("unicode/utf8.acceptRanges", Lib.acceptData), ("unicode.CaseRanges", Lib.caseData), ("unicode/utf8.first", Lib.firstData)] := by
  unfold laidL3 Rows.laid_unicode_utf8_first Rows.laid_unicode_CaseRanges
  rw [acc_eq, Pinned.utf8First_eq, Pinned.caseRanges_eq]
theorem tabs3 {W : World} (hL : laidMetH Tryz.prog laidL3 W) : Tabs W := by
  rw [laidL3_eq] at hL
  exact utf8Tabs_of_readsT (U8Types.of196 Tryz.laysValid) ⟨by kernel_rfl, by kernel_rfl, by kernel_rfl, by kernel_rfl, by kernel_rfl, by kernel_rfl, by kernel_rfl⟩ (Lib.laidMet.reads hL (.tail _ (.tail _ (.head _)))) (Lib.laidMet.reads hL (.head _))
set_option maxRecDepth 100000 in
theorem laid_met3 (os : Os) (args : Array Value) : laidMet Tryz.prog laidL3 ((laidWorld os).forCall (fun _ _ => 0) ⟨#[], args, []⟩).memory := by
  rewrite [laidL3_eq]
  have h1 : LaidIn Tryz.prog ((laidWorld os).forCall (fun _ _ => 0) ⟨#[], args, []⟩).memory [("unicode/utf8.acceptRanges", Lib.acceptData)] [3] := LaidIn.of_run _ 8 (by kernel_rfl) (by kernel_rfl) (by kernel_rfl) (by kernel_rfl)
  have h2 : LaidIn Tryz.prog ((laidWorld os).forCall (fun _ _ => 0) ⟨#[], args, []⟩).memory [("unicode.CaseRanges", Lib.caseData)] [5, (World.settled Tryz.prog default).heap.size] :=
    Great.laidIn_case caseTypes Lib.caseT (by kernel_rfl) (by kernel_rfl) (of_decide_eq_true (by kernel_rfl)) Lib.rowsWf (tg := 182) (tb := 189) (by kernel_rfl) (by kernel_rfl) (of_decide_eq_true (by kernel_rfl))
  have h3 : LaidIn Tryz.prog ((laidWorld os).forCall (fun _ _ => 0) ⟨#[], args, []⟩).memory [("unicode/utf8.first", Lib.firstData)] [2] := LaidIn.of_run _ 8 (by kernel_rfl) (by kernel_rfl) (by kernel_rfl) (by kernel_rfl)
  exact ((h1.append h2 (by kernel_rfl)).append h3 (by kernel_rfl)).met
set_option maxRecDepth 100000 in
theorem contract_webTimes (H : Type) (enc : TypeId × Value → H) (W : World) (base : Nat) (args : Array Value) (ds gs : List (DataW H)) (before : List MemPlace)
    (hval : ∀ (j : Nat) t v, Tryz.f5.params[j]? = some t → args[j]? = some v → Value.okWide Tryz.prog W .any base t v)
    (hW : DataW.Whole enc Tryz.prog Tryz.f5.params.toList Rows.webTimesSpec.vars false W args.toList ds gs before) (hsz : (DataW.weightsEach Tryz.prog (Tryz.f5.params.toList ++ (OpenSpec.ofChange Rows.webTimesSpec).bare.plain.varTypes Tryz.prog) (ds ++ gs)).all (· ≤ reachBytes) = true) (hL : laidMetH Tryz.prog Rows.webTimesRow.laid W) (hS : W.ShapedOpen Tryz.prog) :
    Calls Tryz.prog 5 args W fun e W' => ∃ v, e = .returned v ∧ Rows.webTimesSpec.post enc Tryz.prog Tryz.f5 false true false false W args v W' := by
  have hW' := hW
  obtain ⟨p, q, hA0, hV, rfl, hfz, hnd⟩ := hW
  have hA : DataW.TrodAll enc Tryz.prog W 0 (fun _ => true) true Tryz.f5.params.toList args.toList ds p := hA0
  rw [Tryz.params5] at hA hval
  obtain ⟨v0, vs0, d0, ds0, p0, q0, hargs, rfl, rfl, h0, r0⟩ := trodAll_cons hA
  obtain ⟨rfl, rfl, rfl⟩ := trodAll_nil r0
  obtain rfl : args = #[v0] := by cases args; simp_all
  have k0 := OkW.mk (hval 0 _ v0 rfl rfl)
  obtain ⟨x0, hx0, hz0⟩ := open_strs k0 h0
  refine Calls.mono (times_law v0 x0 W hx0 hz0 (maxC hS) (tabs3 hL)) ?_
  rintro e W' ⟨v, rfl, rfl, hx⟩
  exact ⟨_, rfl, law_post laidOut (by kernel_rfl) (tb := 4) rfl (tb.ok _ _ rfl) rfl hW' rfl hx⟩
theorem reads_webTimes (os : Os) {H : Type} (enc : TypeId × Value → H) : ∃ places, DataW.whole enc Tryz.prog ((laidWorld os).forCall (fun _ _ => 0) ⟨#[], #[.slice none 0 0], []⟩).memory Tryz.f5.params.toList Rows.webTimesSpec.vars false #[.slice none 0 0].toList 8 = some ([.nil], [], places) :=
  ⟨[], by kernel_rfl⟩
set_option maxRecDepth 100000 in
theorem lifted_webTimes (os : Os) (started : os.Started) (H : Type) (enc : TypeId × Value → H) (F : Stop.Interp) :
    ReturnsInHanded {} Tryz.checked os 5 .any ((OpenSpec.ofChange Rows.webTimesSpec).preRow enc Tryz.prog Tryz.f5 Rows.webTimesRow.domain false Rows.webTimesRow.laid) (((OpenSpec.ofChange Rows.webTimesSpec).at F).post enc Tryz.prog Tryz.f5 false true false false) := by
  obtain ⟨places, hx⟩ := reads_webTimes os enc
  refine returnsInHanded_of_row (C := Tryz.checked) (s := OpenSpec.ofChange Rows.webTimesSpec) own started (by kernel_rfl) Tryz.func5
    (witness_row_atRef (enc := enc) (C := Tryz.checked) false (laidWorld os) #[.slice none 0 0] rfl (by kernel_rfl) (by kernel_rfl) (by kernel_rfl)
      (OpenSpec.preRow_of_cond 8 hx (by kernel_rfl) (fun k hk => by cases hk) (by kernel_rfl) (laid_met3 os _))) ?_
  intro W base args ds gs before hval hW _ _ hsz hL hS _
  exact contract_webTimes H enc W base args ds gs before hval hW hsz hL hS
theorem said_webTimes : Rows.WebTimesSaid :=
  OpenClaim.holds_of_cond 5 Tryz.f5 rfl rfl rfl rfl rfl rfl rfl ⟨rfl, rfl, rfl, rfl, rfl⟩ rfl rfl rfl rfl rfl (by kernel_rfl) Tryz.func5 (by kernel_rfl)
    (of_decide_eq_true (by kernel_rfl)) (by unfold Func.isWrapper; first | (rw [if_pos (by decide +kernel)]; kernel_rfl) | (rw [if_neg (by decide +kernel)]; exact ⟨rfl, rfl⟩))
    (fun os started H enc _ F => by rw [OpenClaim.pre_eq_preRow]; exact lifted_webTimes os started H enc F)
theorem plain_webTimes (f : FuncId) (fn : Func) (hf : Tryz.pinned.checked.prog.funcNamed "vigil/vigillaw17.WebTimes" = some f) (hfn : Tryz.pinned.checked.prog.funcs[f]? = some fn) :
    false = Tryz.pinned.checked.prog.looks [] ∧ ∀ (j : Nat) t, fn.params[j]? = some t → Tryz.pinned.checked.prog.wantsStandIn t = false := by
  obtain rfl : f = 5 := Option.some.inj ((show Tryz.prog.funcNamed "vigil/vigillaw17.WebTimes" = some 5 by kernel_rfl).symm.trans hf) |>.symm
  obtain rfl : fn = Tryz.f5 := (Option.some.inj (Tryz.func5.symm.trans hfn)).symm
  refine ⟨by kernel_rfl, fun j t ht => ?_⟩
  rw [Tryz.params5] at ht
  have hm : t ∈ #[28] := Array.mem_of_getElem? ht
  simp only [List.mem_toArray, List.mem_cons, List.not_mem_nil, or_false] at hm
  rcases hm with rfl
  · exact (show Tryz.prog.wantsStandIn 28 = false by kernel_rfl)
/-- WebTimes: whatever texts, the law of times and steps returns true and leaves what came in alone. -/
theorem WebTimes_holds : Rows.WebTimesCardSaid :=
  Claim7.holds_tied_plain_at .later [] _ _ _ _ said_webTimes (fun _ h => by cases h) (by kernel_rfl) (fun _ h => by cases h) webTimes_row_tie rfl ⟨rfl, rfl⟩ (by kernel_rfl) rfl plain_webTimes (by kernel_rfl)
end Go.Proofs.YtlaingmhdgpkdaaGreatDoor
end
