/- web.Read, walked. -/
import Derived.Test.YtlaingmhdgpkdaaGreatDoorZS
import Derived.Lib.CountLaws
open Go Go.Vg Go.RowKit Go.Proofs Go.Proofs.YtlaingmhdgpkdaaGreatDoor
namespace Go.Proofs.YtlaingmhdgpkdaaGreatDoor
set_option linter.unusedSimpArgs false

/-! ### strings.Split -/
theorem splitK_pieces {sep : List UInt8} (hsep : sep ≠ []) : ∀ (n : Nat) (s : List UInt8), s.length ≤ n → Lib.splitK sep 0 (Lib.count s sep) s = piecesL s sep := by
  have hl : 0 < sep.length := List.length_pos_iff.2 hsep
  intro n
  induction n with
  | zero =>
    intro s h
    obtain rfl : s = [] := List.eq_nil_of_length_eq_zero (by omega)
    have hi : Lib.index [] sep = -1 := index_nil hsep
    rw [Lib.count_miss hi, piecesL_step hsep, if_pos (by omega)]
    rfl
  | succ n ih =>
    intro s h
    rw [piecesL_step hsep]
    by_cases hi : Lib.index s sep < 0
    · have hi1 : Lib.index s sep = -1 := by have := Lib.index_ge s sep; omega
      rw [if_pos hi, Lib.count_miss hi1]; rfl
    · obtain ⟨i, hie⟩ : ∃ i : Nat, Lib.index s sep = i := ⟨(Lib.index s sep).toNat, by omega⟩
      have hroom := Lib.index_room s sep (by omega)
      rw [if_neg hi, Lib.count_hit hsep hie, Nat.add_comm 1]
      simp only [Lib.splitK]
      rw [if_neg (by rw [hie]; simp)]
      rw [hie] at hroom ⊢
      simp only [Int.toNat_natCast, Nat.add_zero] at hroom ⊢
      rw [ih _ (by rw [List.length_drop]; omega)]
theorem split_ok (s sep : List UInt8) (w : World) (hs : s.length ≤ 4000000000) (hsep : sep ≠ []) (hM : MaxC w) :
    Ret Tryz.prog 52 ⟨[S s, S sep]⟩ w fun r w' => Strs w' r (piecesL s sep) ∧ Ext w w' := by
  obtain ⟨m, hm⟩ := hM
  have hl : 0 < sep.length := List.length_pos_iff.2 hsep
  refine Calls.mono (Any.strings_Split Tryz.lays146 (by kernel_rfl) ⟨⟨s⟩⟩ ⟨⟨sep⟩⟩ m w (by show s.length < _; omega) hm hl) ?_
  rintro e w' ⟨he, rfl⟩
  refine ⟨_, he, ?_, Ext.alloc _ _⟩
  have hd : (Lib.splitB ⟨⟨sep⟩⟩ 0 (Lib.countB ⟨⟨s⟩⟩ ⟨⟨sep⟩⟩) ⟨⟨s⟩⟩).map (·.data.toList) = piecesL s sep := by
    rw [Lib.splitB_data]
    exact splitK_pieces hsep s.length s (Nat.le_refl _)
  have hlen : (Lib.splitB ⟨⟨sep⟩⟩ 0 (Lib.countB ⟨⟨s⟩⟩ ⟨⟨sep⟩⟩) ⟨⟨s⟩⟩).length = Lib.countB ⟨⟨s⟩⟩ ⟨⟨sep⟩⟩ + 1 := Lib.splitB_all ⟨⟨sep⟩⟩ hl 0 _ _ rfl
  generalize Lib.splitB ⟨⟨sep⟩⟩ 0 (Lib.countB ⟨⟨s⟩⟩ ⟨⟨sep⟩⟩) ⟨⟨s⟩⟩ = bs at hd hlen
  have hpl : (piecesL s sep).length = Lib.countB ⟨⟨s⟩⟩ ⟨⟨sep⟩⟩ + 1 := by rw [← hd, List.length_map, hlen]
  have hcnt := piecesL_cnt s sep
  have hcells : ∀ (i : Nat) (x : List UInt8), (piecesL s sep)[i]? = some x → (bs.map Value.string).toArray[i]? = some (S x) := by
    intro i x hx
    rw [← hd, List.getElem?_map, Option.map_eq_some_iff] at hx
    obtain ⟨b, hb, rfl⟩ := hx
    rw [List.getElem?_toArray, List.getElem?_map, hb]; rfl
  refine .inr ⟨⟨w.heap.size, 0, none⟩, Lib.countB ⟨⟨s⟩⟩ ⟨⟨sep⟩⟩ + 1, ?_, rfl, ?_, strC_k _, ?_, ?_⟩
  · rw [List.length_map, hpl]
  · rw [List.length_map, hpl]; exact Nat.le_refl _
  · intro i x hx j u hu
    simp only [List.getElem?_map, Option.map_eq_some_iff] at hx
    obtain ⟨y, hy, rfl⟩ := hx
    cases j with
    | zero =>
      simp only [strC, List.getElem?_cons_zero, Option.some.injEq] at hu
      subst hu
      rw [Nat.mul_one, Nat.add_zero, Addr.add_lit, Nat.zero_add]
      rw [cell_of_row _ _ i _ _ (0, 0) (heap_alloc_new w _)]
      exact hcells i y hy
    | succ j => simp [strC] at hu
  · rw [List.length_map]; omega

/-! ### bounds -/
theorem decP_len (plus : Bool) : ∀ (n : Nat) (s o : List UInt8), s.length ≤ n → decP plus s = some o → o.length ≤ s.length
  | 0, s, o, h, hd => by
    obtain rfl : s = [] := List.eq_nil_of_length_eq_zero (by omega)
    simp only [decP, Option.some.injEq] at hd; subst hd; exact Nat.le_refl _
  | n + 1, [], o, h, hd => by simp only [decP, Option.some.injEq] at hd; subst hd; exact Nat.le_refl _
  | n + 1, c :: r, o, h, hd => by
    rw [decP_cons] at hd
    simp only [List.length_cons] at h ⊢
    split at hd
    · obtain ⟨o', ho, rfl⟩ := Option.map_eq_some_iff.1 hd
      have := decP_len plus n r o' (by omega) ho
      simp only [List.length_cons]; omega
    · split at hd
      · split at hd
        · rename_i a b r'
          split at hd
          · cases hd
          · obtain ⟨o', ho, rfl⟩ := Option.map_eq_some_iff.1 hd
            simp only [List.length_cons] at h
            have := decP_len plus n r' o' (by omega) ho
            simp only [List.length_cons]; omega
        · cases hd
      · obtain ⟨o', ho, rfl⟩ := Option.map_eq_some_iff.1 hd
        have := decP_len plus n r o' (by omega) ho
        simp only [List.length_cons]; omega
theorem paramsL_bd {L : Nat} : ∀ (ps : List (List UInt8)) (ls : List Lab), (∀ p ∈ ps, p.length ≤ L) → paramsL ps = some ls → ls.length ≤ ps.length ∧ ∀ x ∈ ls, x.1.length ≤ L ∧ x.2.length ≤ L
  | [], ls, _, h => by simp only [paramsL, Option.some.injEq] at h; subst h; exact ⟨Nat.le_refl _, fun x hx => by cases hx⟩
  | p :: r, ls, hp, h => by
    simp only [paramsL] at h
    split at h
    · obtain ⟨h1, h2⟩ := paramsL_bd r ls (fun q hq => hp q (by simp [hq])) h
      exact ⟨by simp only [List.length_cons]; omega, h2⟩
    · split at h
      · rename_i x hx
        obtain ⟨l', hl', rfl⟩ := Option.map_eq_some_iff.1 h
        obtain ⟨h1, h2⟩ := paramsL_bd r l' (fun q hq => hp q (by simp [hq])) hl'
        refine ⟨by simp only [List.length_cons]; omega, ?_⟩
        intro y hy
        rcases List.mem_cons.1 hy with rfl | hy
        · have hpl := hp p (by simp)
          have hcl := cut_len p [61]
          unfold partP at hx
          split at hx
          · rename_i n v hn hv
            cases hx
            have a1 := decP_len true _ _ _ (Nat.le_refl _) hn
            have a2 := decP_len true _ _ _ (Nat.le_refl _) hv
            exact ⟨by simp only; omega, by simp only; omega⟩
          · cases hx
        · exact h2 y hy
      · cases h
theorem aget_aput (es : TT) (k v x : List UInt8) (u : List UInt8) (h : aget (aput es k v) x = some u) : u = v ∨ aget es x = some u := by
  induction es with
  | nil =>
    simp only [aput, aget] at h
    split at h
    · cases h; exact .inl rfl
    · cases h
  | cons p r ih =>
    simp only [aput] at h
    split at h
    · rename_i hk
      simp only [aget] at h
      split at h
      · cases h; exact .inl rfl
      · rename_i hx
        refine .inr ?_
        simp only [aget]
        rw [if_neg (by rw [hk]; exact hx)]; exact h
    · simp only [aget] at h
      split at h
      · rename_i hx
        refine .inr ?_
        simp only [aget]
        rw [if_pos hx]; exact h
      · rename_i hx
        rcases ih h with h1 | h1
        · exact .inl h1
        · refine .inr ?_
          simp only [aget]
          rw [if_neg hx]; exact h1
theorem headP_bd {L : Nat} : ∀ (ls : List (List UInt8)) (es es' : TT), (∀ s ∈ ls, s.length ≤ L) → (∀ x u, aget es x = some u → u.length ≤ L) → headP es ls = some es' → ∀ x u, aget es' x = some u → u.length ≤ L
  | [], es, es', _, he, h => by simp only [headP, Option.some.injEq] at h; subst h; exact he
  | s :: r, es, es', hl, he, h => by
    simp only [headP] at h
    split at h
    · rename_i es1 h1
      refine headP_bd r es1 es' (fun q hq => hl q (by simp [hq])) ?_ h
      unfold lineP at h1
      split at h1
      · cases h1
      · split at h1
        · cases h1
          intro x u hu
          rcases aget_aput _ _ _ _ _ hu with rfl | hu
          · have a1 := trimB_len (Lib.cut s [58]).2.1 32
            have a2 := cut_len s [58]
            have a3 := hl s (by simp)
            omega
          · exact he x u hu
        · cases h1
    · cases h
theorem piecesL_ne (s sep : List UInt8) : piecesL s sep ≠ [] := by
  by_cases h : sep = []
  · unfold piecesL; rw [if_pos h]; simp
  · rw [piecesL_cut h]; simp

/-! ### Read in plain words -/
def getS : List UInt8 := [71, 69, 84]
def postS : List UInt8 := [80, 79, 83, 84]
def ctS : List UInt8 := [99, 111, 110, 116, 101, 110, 116, 45, 116, 121, 112, 101]
def formS : List UInt8 := [97, 112, 112, 108, 105, 99, 97, 116, 105, 111, 110, 47, 120, 45, 119, 119, 119, 45, 102, 111, 114, 109, 45, 117, 114, 108, 101, 110, 99, 111, 100, 101, 100]
abbrev Req := List UInt8 × List UInt8 × List Lab
def noReq : Req := ([], [], [])
/-- a request whose parts are well: its path, parameters and body are still to be read -/
def readB (method target body : List UInt8) (es : TT) : Req × Int :=
  match decP false (Lib.cut target [63]).1, paramsL (piecesL (Lib.cut target [63]).2.1 [38]) with
  | some path, some ls => if textP path ls = false then (noReq, 400) else
    if (decide (method = postS) && decide (Lib.trimB (Lib.cut ((aget es ctS).getD []) [59]).1 32 = formS)) = true then
      match paramsL (piecesL body [38]) with
      | some ms => if textP [] ms = false then (noReq, 400) else ((method, path, ls ++ ms), 200)
      | none => (noReq, 400)
    else ((method, path, ls), 200)
  | _, _ => (noReq, 400)
/-- what stands ahead of the body is read, and the body's length is looked at -/
def readH (ok : Bool) (lines : List (List UInt8)) (body : List UInt8) : Req × Int :=
  match headP [] lines.tail with
  | none => (noReq, 400)
  | some es => if ((!ok || !(lineA (lines.headD [])).2.2) || !lengthP es body) = true then (noReq, 400) else
    if (!decide ((lineA (lines.headD [])).1 = getS) && !decide ((lineA (lines.headD [])).1 = postS)) = true then (noReq, 405) else
    readB (lineA (lines.headD [])).1 (lineA (lines.headD [])).2.1 body es
def readP (raw : List UInt8) : Req × Int :=
  if 1048576 < raw.length then (noReq, 413) else readH (Lib.cut raw [13, 10, 13, 10]).2.2 (piecesL (Lib.cut raw [13, 10, 13, 10]).1 [13, 10]) (Lib.cut raw [13, 10, 13, 10]).2.1

/-- what Read hands back -/
def ReadR (w : World) (x : Req × Int) (r : Value) (w' : World) : Prop := Ext w w' ∧ ∃ u, r = .tuple ⟨[.agg ⟨reqC x.1.1 x.1.2.1 u⟩, .int .i64 x.2]⟩ ∧ Labs w' u x.1.2.2
theorem readR_no {w w' : World} {st : Int} (h : Ext w w') : ReadR w (noReq, st) (.tuple ⟨[.agg ⟨reqC [] [] (.slice none 0 0)⟩, .int .i64 st]⟩) w' :=
  ⟨h, _, rfl, Sli.nil _ _⟩
theorem lineA_len (s : List UInt8) : (lineA s).1.length ≤ s.length ∧ (lineA s).2.1.length ≤ s.length := by
  have h1 := cut_len s [32]
  have h2 := cut_len (Lib.cut s [32]).2.1 [32]
  exact ⟨h1.1, Nat.le_trans h2.1 h1.2⟩

theorem read_ok (v : Value) (raw : List UInt8) (w : World) (hv : By w v raw) (hM : MaxC w) (hT : Tabs w) :
    Ret Tryz.prog 33 ⟨[v]⟩ w (ReadR w (readP raw)) := by
  have hbd := Sli.bound hv
  rw [bysC_len] at hbd
  refine ret_of_G Tryz.func33 rfl Tryz.ntmps33 rfl ?_
  simp only [argEnv]
  try (first | refine gl tb ?_ | refine gg tb ?_ | refine ll tb ?_ | refine lg tb ?_); repeat ((first | refine G.condT rfl ?_ | refine G.condF rfl ?_ | refine sFa tb ?_ | refine sLd tb ?_ | refine sLa tb ?_ | refine sLen tb ?_ | refine sFd tb ?_ | refine sBd tb ?_ | refine sBa tb ?_); try (first | refine gl tb ?_ | refine gg tb ?_ | refine ll tb ?_ | refine lg tb ?_))
  refine sAl tb ?_
  intro w1 hb1 hs1 hx1
  have hv1 := hv.to hx1
  try (first | refine gl tb ?_ | refine gg tb ?_ | refine ll tb ?_ | refine lg tb ?_); repeat ((first | refine G.condT rfl ?_ | refine G.condF rfl ?_ | refine sFa tb ?_ | refine sLd tb ?_ | refine sLa tb ?_ | refine sLen tb ?_ | refine sFd tb ?_ | refine sBd tb ?_ | refine sBa tb ?_); try (first | refine gl tb ?_ | refine gg tb ?_ | refine ll tb ?_ | refine lg tb ?_))
  rw [bysC_len]
  try (first | refine gl tb ?_ | refine gg tb ?_ | refine ll tb ?_ | refine lg tb ?_); repeat ((first | refine G.condT rfl ?_ | refine G.condF rfl ?_ | refine sFa tb ?_ | refine sLd tb ?_ | refine sLa tb ?_ | refine sLen tb ?_ | refine sFd tb ?_ | refine sBd tb ?_ | refine sBa tb ?_); try (first | refine gl tb ?_ | refine gg tb ?_ | refine ll tb ?_ | refine lg tb ?_))
  obtain ⟨B, hB⟩ : ∃ B, B = w.heap.size := ⟨_, rfl⟩
  rw [← hB] at hb1 ⊢
  first | refine G.condD rfl (fun hc => ?_) (fun hc => ?_) | refine G.condN rfl (fun hc => ?_) (fun hc => ?_) | refine G.cond rfl (fun hc => ?_) (fun hc => ?_)
  · have he : readP raw = (noReq, 413) := by unfold readP; rw [if_pos (by omega)]
    rw [he]
    try (first | refine gl tb ?_ | refine gg tb ?_ | refine ll tb ?_ | refine lg tb ?_); repeat ((first | refine G.condT rfl ?_ | refine G.condF rfl ?_ | refine sFa tb ?_ | refine sLd tb ?_ | refine sLa tb ?_ | refine sLen tb ?_ | refine sFd tb ?_ | refine sBd tb ?_ | refine sBa tb ?_); try (first | refine gl tb ?_ | refine gg tb ?_ | refine ll tb ?_ | refine lg tb ?_))
    refine sSt tb ?_ (vs := reqC [] [] (.slice none 0 0)) (hv := rfl) (hb := hb1) (h1 := by simp [Value.oneCell', S, reqC])
    intro w2 hb2 hw2
    try (first | refine gl tb ?_ | refine gg tb ?_ | refine ll tb ?_ | refine lg tb ?_); repeat ((first | refine G.condT rfl ?_ | refine G.condF rfl ?_ | refine sFa tb ?_ | refine sLd tb ?_ | refine sLa tb ?_ | refine sLen tb ?_ | refine sFd tb ?_ | refine sBd tb ?_ | refine sBa tb ?_); try (first | refine gl tb ?_ | refine gg tb ?_ | refine ll tb ?_ | refine lg tb ?_))
    refine G.retAT tb rfl rfl hb2.cells (readR_no (Below.wr hx1 hw2 (by omega))) rfl rfl rfl rfl rfl rfl rfl
  · have hrl : raw.length ≤ 1048576 := by omega
    have he : readP raw = readH (Lib.cut raw [13, 10, 13, 10]).2.2 (piecesL (Lib.cut raw [13, 10, 13, 10]).1 [13, 10]) (Lib.cut raw [13, 10, 13, 10]).2.1 := by unfold readP; rw [if_neg (by omega)]
    rw [he]
    clear he
    have hcl := cut_len raw [13, 10, 13, 10]
    try (first | refine gl tb ?_ | refine gg tb ?_ | refine ll tb ?_ | refine lg tb ?_); repeat ((first | refine G.condT rfl ?_ | refine G.condF rfl ?_ | refine sFa tb ?_ | refine sLd tb ?_ | refine sLa tb ?_ | refine sLen tb ?_ | refine sFd tb ?_ | refine sBd tb ?_ | refine sBa tb ?_); try (first | refine gl tb ?_ | refine gg tb ?_ | refine ll tb ?_ | refine lg tb ?_))
    refine sByS tb hv1 ?_
    try (first | refine gl tb ?_ | refine gg tb ?_ | refine ll tb ?_ | refine lg tb ?_); repeat ((first | refine G.condT rfl ?_ | refine G.condF rfl ?_ | refine sFa tb ?_ | refine sLd tb ?_ | refine sLa tb ?_ | refine sLen tb ?_ | refine sFd tb ?_ | refine sBd tb ?_ | refine sBa tb ?_); try (first | refine gl tb ?_ | refine gg tb ?_ | refine ll tb ?_ | refine lg tb ?_))
    refine sCall c51 (cut_ok raw [13, 10, 13, 10] w1 (by omega) (hM.to hx1)) ?_
    rintro _ w2 ⟨rfl, hx2⟩
    have hx02 := hx1.trans hx2
    generalize (Lib.cut raw [13, 10, 13, 10]).1 = top at hcl ⊢
    generalize (Lib.cut raw [13, 10, 13, 10]).2.1 = body at hcl ⊢
    generalize (Lib.cut raw [13, 10, 13, 10]).2.2 = ok at ⊢
    try (first | refine gl tb ?_ | refine gg tb ?_ | refine ll tb ?_ | refine lg tb ?_); repeat ((first | refine G.condT rfl ?_ | refine G.condF rfl ?_ | refine sFa tb ?_ | refine sLd tb ?_ | refine sLa tb ?_ | refine sLen tb ?_ | refine sFd tb ?_ | refine sBd tb ?_ | refine sBa tb ?_); try (first | refine gl tb ?_ | refine gg tb ?_ | refine ll tb ?_ | refine lg tb ?_))
    refine sCall c52 (split_ok top [13, 10] w2 (by omega) (by simp) (hM.to hx02)) ?_
    rintro lv w3 ⟨hlv, hx3⟩
    have hx03 := hx02.trans hx3
    have hpl : ∀ p ∈ piecesL top [13, 10], p.length ≤ 1048576 := fun p hp => Nat.le_trans (piecesL_len hp) (by omega)
    have hpn := piecesL_ne top [13, 10]
    generalize piecesL top [13, 10] = lines at hlv hpl hpn ⊢
    obtain ⟨l0, rest, rfl⟩ : ∃ l0 rest, lines = l0 :: rest := by
      cases lines with
      | nil => exact absurd rfl hpn
      | cons a r => exact ⟨a, r, rfl⟩
    have hget0 : ((l0 :: rest).map strC)[0]? = some (strC l0) := rfl
    have hl0 := hpl l0 (by simp)
    have hlnb := hlv.bound
    rw [List.length_map] at hlnb
    unfold readH
    rw [show (l0 :: rest).tail = rest from rfl, show (l0 :: rest).headD [] = l0 from rfl]
    try (first | refine gl tb ?_ | refine gg tb ?_ | refine ll tb ?_ | refine lg tb ?_); repeat ((first | refine G.condT rfl ?_ | refine G.condF rfl ?_ | refine sFa tb ?_ | refine sLd tb ?_ | refine sLa tb ?_ | refine sLen tb ?_ | refine sFd tb ?_ | refine sBd tb ?_ | refine sBa tb ?_); try (first | refine gl tb ?_ | refine gg tb ?_ | refine ll tb ?_ | refine lg tb ?_))
    refine sIa tb 0 ?_ (hj := fun _ => ⟨rfl, by simp⟩)
    try (first | refine gl tb ?_ | refine gg tb ?_ | refine ll tb ?_ | refine lg tb ?_); repeat ((first | refine G.condT rfl ?_ | refine G.condF rfl ?_ | refine sFa tb ?_ | refine sLd tb ?_ | refine sLa tb ?_ | refine sLen tb ?_ | refine sFd tb ?_ | refine sBd tb ?_ | refine sBa tb ?_); try (first | refine gl tb ?_ | refine gg tb ?_ | refine ll tb ?_ | refine lg tb ?_))
    refine sCall c53 (first_ok l0 w3 (by omega) (hM.to hx03)) ?_
    rintro _ w4 ⟨rfl, hx4⟩
    have hx04 := hx03.trans hx4
    have hlal := lineA_len l0
    generalize (lineA l0).1 = method at hlal ⊢
    generalize (lineA l0).2.1 = target at hlal ⊢
    generalize (lineA l0).2.2 = fine at ⊢
    try (first | refine gl tb ?_ | refine gg tb ?_ | refine ll tb ?_ | refine lg tb ?_); repeat ((first | refine G.condT rfl ?_ | refine G.condF rfl ?_ | refine sFa tb ?_ | refine sLd tb ?_ | refine sLa tb ?_ | refine sLen tb ?_ | refine sFd tb ?_ | refine sBd tb ?_ | refine sBa tb ?_); try (first | refine gl tb ?_ | refine gg tb ?_ | refine ll tb ?_ | refine lg tb ?_))
    refine GL.cons (Step.sliceVl tb 1 rfl (Op1.of rfl (by first | exact fun _ => rfl | exact fun h => h | exact fun h => bL h | exact fun h => bL (bL h) | exact fun h => bL (bL (bL h)))) (Op1.of rfl (by first | exact fun _ => rfl | exact fun h => h | exact fun h => bL h | exact fun h => bL (bL h) | exact fun h => bL (bL (bL h)))) rfl rfl (fun _ => ⟨_, hlv⟩) (fun _ => ⟨rfl, by simp⟩) rfl ?_)
    have hsub : Strs w4 (subS lv 1 1 ((l0 :: rest).map strC).length) rest := by
      have := (hlv.to hx4).sub (l := 1) (h := ((l0 :: rest).map strC).length) (by simp) (Nat.le_refl _)
      have e : (((l0 :: rest).map strC).drop 1).take (((l0 :: rest).map strC).length - 1) = rest.map strC := by
        simp only [List.map_cons, List.drop_succ_cons, List.drop_zero, List.length_cons, Nat.add_sub_cancel, List.take_length]
      rw [e] at this
      exact this
    refine sCall c54 (headers_ok _ rest w4 hsub (fun s hs => Nat.le_trans (hpl s (by simp [hs])) (by omega)) (hM.to hx04)) ?_
    rintro r w5 ⟨hx5, hr⟩
    have hx05 := hx04.trans hx5
    have hb5 : Bx w5 B _ := ((((hb1.to hx2).to hx3).to hx4).to hx5)
    cases hh : headP [] rest with
    | none =>
      rw [hh] at hr
      subst hr
      try (first | refine gl tb ?_ | refine gg tb ?_ | refine ll tb ?_ | refine lg tb ?_); repeat ((first | refine G.condT rfl ?_ | refine G.condF rfl ?_ | refine sFa tb ?_ | refine sLd tb ?_ | refine sLa tb ?_ | refine sLen tb ?_ | refine sFd tb ?_ | refine sBd tb ?_ | refine sBa tb ?_); try (first | refine gl tb ?_ | refine gg tb ?_ | refine ll tb ?_ | refine lg tb ?_))
      refine sCallx (v := .bool true) (vs := [.map none, S body]) c55 ?_ ?_
      · intro hc
        simp [cv] at hc
      intro w6 hx6
      try (first | refine gl tb ?_ | refine gg tb ?_ | refine ll tb ?_ | refine lg tb ?_); repeat ((first | refine G.condT rfl ?_ | refine G.condF rfl ?_ | refine sFa tb ?_ | refine sLd tb ?_ | refine sLa tb ?_ | refine sLen tb ?_ | refine sFd tb ?_ | refine sBd tb ?_ | refine sBa tb ?_); try (first | refine gl tb ?_ | refine gg tb ?_ | refine ll tb ?_ | refine lg tb ?_))
      first | refine G.condD rfl (fun hc => ?_) (fun hc => ?_) | refine G.condN rfl (fun hc => ?_) (fun hc => ?_) | refine G.cond rfl (fun hc => ?_) (fun hc => ?_)
      · try (first | refine gl tb ?_ | refine gg tb ?_ | refine ll tb ?_ | refine lg tb ?_); repeat ((first | refine G.condT rfl ?_ | refine G.condF rfl ?_ | refine sFa tb ?_ | refine sLd tb ?_ | refine sLa tb ?_ | refine sLen tb ?_ | refine sFd tb ?_ | refine sBd tb ?_ | refine sBa tb ?_); try (first | refine gl tb ?_ | refine gg tb ?_ | refine ll tb ?_ | refine lg tb ?_))
        refine sSt tb ?_ (vs := reqC [] [] (.slice none 0 0)) (hv := rfl) (hb := hb5.to hx6) (h1 := by simp [Value.oneCell', S, reqC])
        intro we hbe hwe
        try (first | refine gl tb ?_ | refine gg tb ?_ | refine ll tb ?_ | refine lg tb ?_); repeat ((first | refine G.condT rfl ?_ | refine G.condF rfl ?_ | refine sFa tb ?_ | refine sLd tb ?_ | refine sLa tb ?_ | refine sLen tb ?_ | refine sFd tb ?_ | refine sBd tb ?_ | refine sBa tb ?_); try (first | refine gl tb ?_ | refine gg tb ?_ | refine ll tb ?_ | refine lg tb ?_))
        exact G.retAT tb rfl rfl hbe.cells (readR_no (Below.wr (hx05.trans hx6) hwe (by omega))) rfl rfl rfl rfl rfl rfl rfl
      · simp at hc
    | some es =>
      rw [hh] at hr
      obtain ⟨mb, rfl, hm5⟩ := hr
      have hgb := headP_bd (L := 1048576) rest [] es (fun s hs => hpl s (by simp [hs])) (fun x u h => by cases h) hh
      simp only []
      try (first | refine gl tb ?_ | refine gg tb ?_ | refine ll tb ?_ | refine lg tb ?_); repeat ((first | refine G.condT rfl ?_ | refine G.condF rfl ?_ | refine sFa tb ?_ | refine sLd tb ?_ | refine sLa tb ?_ | refine sLen tb ?_ | refine sFd tb ?_ | refine sBd tb ?_ | refine sBa tb ?_); try (first | refine gl tb ?_ | refine gg tb ?_ | refine ll tb ?_ | refine lg tb ?_))
      refine sCallq c55 (fun _ => length_ok mb es body w5 hm5 (by omega) (fun v h => by have := hgb _ _ h; omega)) ?_
      try (first | refine gl tb ?_ | refine gg tb ?_ | refine ll tb ?_ | refine lg tb ?_); repeat ((first | refine G.condT rfl ?_ | refine G.condF rfl ?_ | refine sFa tb ?_ | refine sLd tb ?_ | refine sLa tb ?_ | refine sLen tb ?_ | refine sFd tb ?_ | refine sBd tb ?_ | refine sBa tb ?_); try (first | refine gl tb ?_ | refine gg tb ?_ | refine ll tb ?_ | refine lg tb ?_))
      first | refine G.condD rfl (fun hc => ?_) (fun hc => ?_) | refine G.condN rfl (fun hc => ?_) (fun hc => ?_) | refine G.cond rfl (fun hc => ?_) (fun hc => ?_)
      · have hc' : ((!ok || !fine) || !lengthP es body) = true := by simpa using hc
        rw [if_pos hc']
        try (first | refine gl tb ?_ | refine gg tb ?_ | refine ll tb ?_ | refine lg tb ?_); repeat ((first | refine G.condT rfl ?_ | refine G.condF rfl ?_ | refine sFa tb ?_ | refine sLd tb ?_ | refine sLa tb ?_ | refine sLen tb ?_ | refine sFd tb ?_ | refine sBd tb ?_ | refine sBa tb ?_); try (first | refine gl tb ?_ | refine gg tb ?_ | refine ll tb ?_ | refine lg tb ?_))
        refine sSt tb ?_ (vs := reqC [] [] (.slice none 0 0)) (hv := rfl) (hb := hb5) (h1 := by simp [Value.oneCell', S, reqC])
        intro we hbe hwe
        try (first | refine gl tb ?_ | refine gg tb ?_ | refine ll tb ?_ | refine lg tb ?_); repeat ((first | refine G.condT rfl ?_ | refine G.condF rfl ?_ | refine sFa tb ?_ | refine sLd tb ?_ | refine sLa tb ?_ | refine sLen tb ?_ | refine sFd tb ?_ | refine sBd tb ?_ | refine sBa tb ?_); try (first | refine gl tb ?_ | refine gg tb ?_ | refine ll tb ?_ | refine lg tb ?_))
        exact G.retAT tb rfl rfl hbe.cells (readR_no (Below.wr (hx05) hwe (by omega))) rfl rfl rfl rfl rfl rfl rfl
      · have hc' : ((!ok || !fine) || !lengthP es body) = false := by simpa using hc
        rw [if_neg (by rw [hc']; simp)]
        clear hc hc'
        try (first | refine gl tb ?_ | refine gg tb ?_ | refine ll tb ?_ | refine lg tb ?_); repeat ((first | refine G.condT rfl ?_ | refine G.condF rfl ?_ | refine sFa tb ?_ | refine sLd tb ?_ | refine sLa tb ?_ | refine sLen tb ?_ | refine sFd tb ?_ | refine sBd tb ?_ | refine sBa tb ?_); try (first | refine gl tb ?_ | refine gg tb ?_ | refine ll tb ?_ | refine lg tb ?_))
        first | refine G.condD rfl (fun hc => ?_) (fun hc => ?_) | refine G.condN rfl (fun hc => ?_) (fun hc => ?_) | refine G.cond rfl (fun hc => ?_) (fun hc => ?_)
        · rw [if_pos (by exact hc)]
          try (first | refine gl tb ?_ | refine gg tb ?_ | refine ll tb ?_ | refine lg tb ?_); repeat ((first | refine G.condT rfl ?_ | refine G.condF rfl ?_ | refine sFa tb ?_ | refine sLd tb ?_ | refine sLa tb ?_ | refine sLen tb ?_ | refine sFd tb ?_ | refine sBd tb ?_ | refine sBa tb ?_); try (first | refine gl tb ?_ | refine gg tb ?_ | refine ll tb ?_ | refine lg tb ?_))
          refine sSt tb ?_ (vs := reqC [] [] (.slice none 0 0)) (hv := rfl) (hb := hb5) (h1 := by simp [Value.oneCell', S, reqC])
          intro we hbe hwe
          try (first | refine gl tb ?_ | refine gg tb ?_ | refine ll tb ?_ | refine lg tb ?_); repeat ((first | refine G.condT rfl ?_ | refine G.condF rfl ?_ | refine sFa tb ?_ | refine sLd tb ?_ | refine sLa tb ?_ | refine sLen tb ?_ | refine sFd tb ?_ | refine sBd tb ?_ | refine sBa tb ?_); try (first | refine gl tb ?_ | refine gg tb ?_ | refine ll tb ?_ | refine lg tb ?_))
          exact G.retAT tb rfl rfl hbe.cells (readR_no (Below.wr (hx05) hwe (by omega))) rfl rfl rfl rfl rfl rfl rfl
        · rw [if_neg (by rw [show (!decide (method = getS) && !decide (method = postS)) = false from hc]; simp)]
          clear hc
          unfold readB
          have hcq := cut_len target [63]
          try (first | refine gl tb ?_ | refine gg tb ?_ | refine ll tb ?_ | refine lg tb ?_); repeat ((first | refine G.condT rfl ?_ | refine G.condF rfl ?_ | refine sFa tb ?_ | refine sLd tb ?_ | refine sLa tb ?_ | refine sLen tb ?_ | refine sFd tb ?_ | refine sBd tb ?_ | refine sBa tb ?_); try (first | refine gl tb ?_ | refine gg tb ?_ | refine ll tb ?_ | refine lg tb ?_))
          refine sCall c51 (cut_ok target [63] w5 (by omega) (hM.to hx05)) ?_
          rintro _ w6 ⟨rfl, hx6⟩
          have hx06 := hx05.trans hx6
          generalize (Lib.cut target [63]).1 = whr at hcq ⊢
          generalize (Lib.cut target [63]).2.1 = pcs at hcq ⊢
          try (first | refine gl tb ?_ | refine gg tb ?_ | refine ll tb ?_ | refine lg tb ?_); repeat ((first | refine G.condT rfl ?_ | refine G.condF rfl ?_ | refine sFa tb ?_ | refine sLd tb ?_ | refine sLa tb ?_ | refine sLen tb ?_ | refine sFd tb ?_ | refine sBd tb ?_ | refine sBa tb ?_); try (first | refine gl tb ?_ | refine gg tb ?_ | refine ll tb ?_ | refine lg tb ?_))
          refine sCall c56 (decode_ok whr false w6 (by omega)) ?_
          rintro r1 w7 ⟨hr1, hx7⟩
          have hx07 := hx06.trans hx7
          cases hd : decP false whr with
          | none =>
            rw [hd] at hr1
            subst hr1
            try (first | refine gl tb ?_ | refine gg tb ?_ | refine ll tb ?_ | refine lg tb ?_); repeat ((first | refine G.condT rfl ?_ | refine G.condF rfl ?_ | refine sFa tb ?_ | refine sLd tb ?_ | refine sLa tb ?_ | refine sLen tb ?_ | refine sFd tb ?_ | refine sBd tb ?_ | refine sBa tb ?_); try (first | refine gl tb ?_ | refine gg tb ?_ | refine ll tb ?_ | refine lg tb ?_))
            refine sCall c57 (params_ok pcs w7 (by omega) (hM.to hx07)) ?_
            rintro r2 w8 ⟨hx8, hr2⟩
            have hx08 := hx07.trans hx8
            have hr2' : ∃ u e, r2 = .tuple ⟨[u, .int .i64 e]⟩ := by
              cases hp : paramsL (piecesL pcs [38]) with
              | none => rw [hp] at hr2; exact ⟨_, _, hr2⟩
              | some b => rw [hp] at hr2; obtain ⟨u, h1, _⟩ := hr2; exact ⟨_, _, h1⟩
            obtain ⟨u, e, rfl⟩ := hr2'
            clear hr2
            try (first | refine gl tb ?_ | refine gg tb ?_ | refine ll tb ?_ | refine lg tb ?_); repeat ((first | refine G.condT rfl ?_ | refine G.condF rfl ?_ | refine sFa tb ?_ | refine sLd tb ?_ | refine sLa tb ?_ | refine sLen tb ?_ | refine sFd tb ?_ | refine sBd tb ?_ | refine sBa tb ?_); try (first | refine gl tb ?_ | refine gg tb ?_ | refine ll tb ?_ | refine lg tb ?_))
            refine sCallx (v := .bool true) (vs := [S [], u]) c58 ?_ ?_
            · intro hc
              simp [cv] at hc
            intro w9 hx9
            try (first | refine gl tb ?_ | refine gg tb ?_ | refine ll tb ?_ | refine lg tb ?_); repeat ((first | refine G.condT rfl ?_ | refine G.condF rfl ?_ | refine sFa tb ?_ | refine sLd tb ?_ | refine sLa tb ?_ | refine sLen tb ?_ | refine sFd tb ?_ | refine sBd tb ?_ | refine sBa tb ?_); try (first | refine gl tb ?_ | refine gg tb ?_ | refine ll tb ?_ | refine lg tb ?_))
            have hb9 := ((((hb5.to hx6).to hx7).to hx8).to hx9)
            have hx09 := hx08.trans hx9
            refine sSt tb ?_ (vs := reqC [] [] (.slice none 0 0)) (hv := rfl) (hb := hb9) (h1 := by simp [Value.oneCell', S, reqC])
            intro we hbe hwe
            try (first | refine gl tb ?_ | refine gg tb ?_ | refine ll tb ?_ | refine lg tb ?_); repeat ((first | refine G.condT rfl ?_ | refine G.condF rfl ?_ | refine sFa tb ?_ | refine sLd tb ?_ | refine sLa tb ?_ | refine sLen tb ?_ | refine sFd tb ?_ | refine sBd tb ?_ | refine sBa tb ?_); try (first | refine gl tb ?_ | refine gg tb ?_ | refine ll tb ?_ | refine lg tb ?_))
            exact G.retAT tb rfl rfl hbe.cells (readR_no (Below.wr (hx09) hwe (by omega))) rfl rfl rfl rfl rfl rfl rfl
          | some path =>
            rw [hd] at hr1
            subst hr1
            have hpath := decP_len false _ _ _ (Nat.le_refl _) hd
            try (first | refine gl tb ?_ | refine gg tb ?_ | refine ll tb ?_ | refine lg tb ?_); repeat ((first | refine G.condT rfl ?_ | refine G.condF rfl ?_ | refine sFa tb ?_ | refine sLd tb ?_ | refine sLa tb ?_ | refine sLen tb ?_ | refine sFd tb ?_ | refine sBd tb ?_ | refine sBa tb ?_); try (first | refine gl tb ?_ | refine gg tb ?_ | refine ll tb ?_ | refine lg tb ?_))
            refine sCall c57 (params_ok pcs w7 (by omega) (hM.to hx07)) ?_
            rintro r2 w8 ⟨hx8, hr2⟩
            have hx08 := hx07.trans hx8
            have hb8 := (((hb5.to hx6).to hx7).to hx8)
            have hm8 := (((hm5.to hx6).to hx7).to hx8)
            cases hp : paramsL (piecesL pcs [38]) with
            | none =>
              rw [hp] at hr2
              subst hr2
              try (first | refine gl tb ?_ | refine gg tb ?_ | refine ll tb ?_ | refine lg tb ?_); repeat ((first | refine G.condT rfl ?_ | refine G.condF rfl ?_ | refine sFa tb ?_ | refine sLd tb ?_ | refine sLa tb ?_ | refine sLen tb ?_ | refine sFd tb ?_ | refine sBd tb ?_ | refine sBa tb ?_); try (first | refine gl tb ?_ | refine gg tb ?_ | refine ll tb ?_ | refine lg tb ?_))
              refine sCallx (v := .bool true) (vs := [S path, .slice none 0 0]) c58 ?_ ?_
              · intro hc
                simp [cv] at hc
              intro w9 hx9
              try (first | refine gl tb ?_ | refine gg tb ?_ | refine ll tb ?_ | refine lg tb ?_); repeat ((first | refine G.condT rfl ?_ | refine G.condF rfl ?_ | refine sFa tb ?_ | refine sLd tb ?_ | refine sLa tb ?_ | refine sLen tb ?_ | refine sFd tb ?_ | refine sBd tb ?_ | refine sBa tb ?_); try (first | refine gl tb ?_ | refine gg tb ?_ | refine ll tb ?_ | refine lg tb ?_))
              have hx09 := hx08.trans hx9
              refine sSt tb ?_ (vs := reqC [] [] (.slice none 0 0)) (hv := rfl) (hb := hb8.to hx9) (h1 := by simp [Value.oneCell', S, reqC])
              intro we hbe hwe
              try (first | refine gl tb ?_ | refine gg tb ?_ | refine ll tb ?_ | refine lg tb ?_); repeat ((first | refine G.condT rfl ?_ | refine G.condF rfl ?_ | refine sFa tb ?_ | refine sLd tb ?_ | refine sLa tb ?_ | refine sLen tb ?_ | refine sFd tb ?_ | refine sBd tb ?_ | refine sBa tb ?_); try (first | refine gl tb ?_ | refine gg tb ?_ | refine ll tb ?_ | refine lg tb ?_))
              exact G.retAT tb rfl rfl hbe.cells (readR_no (Below.wr (hx09) hwe (by omega))) rfl rfl rfl rfl rfl rfl rfl
            | some ls =>
              rw [hp] at hr2
              obtain ⟨u, rfl, hu8⟩ := hr2
              obtain ⟨hcnt, hlb⟩ := paramsL_bd (L := 1048576) _ _ (fun p hq => Nat.le_trans (piecesL_len hq) (by omega)) hp
              have hpc := piecesL_cnt pcs [38]
              simp only []
              try (first | refine gl tb ?_ | refine gg tb ?_ | refine ll tb ?_ | refine lg tb ?_); repeat ((first | refine G.condT rfl ?_ | refine G.condF rfl ?_ | refine sFa tb ?_ | refine sLd tb ?_ | refine sLa tb ?_ | refine sLen tb ?_ | refine sFd tb ?_ | refine sBd tb ?_ | refine sBa tb ?_); try (first | refine gl tb ?_ | refine gg tb ?_ | refine ll tb ?_ | refine lg tb ?_))
              refine sCallx (vs := [S path, u]) c58 (fun _ => text_ok path u ls w8 (by omega) hu8.sli (fun x hx => by have := hlb x hx; omega) (hT.to hx08)) ?_
              intro w9 hx9
              have hx09 := hx08.trans hx9
              have hb9 := hb8.to hx9
              have hm9 := hm8.to hx9
              have hu9 := hu8.to hx9
              try (first | refine gl tb ?_ | refine gg tb ?_ | refine ll tb ?_ | refine lg tb ?_); repeat ((first | refine G.condT rfl ?_ | refine G.condF rfl ?_ | refine sFa tb ?_ | refine sLd tb ?_ | refine sLa tb ?_ | refine sLen tb ?_ | refine sFd tb ?_ | refine sBd tb ?_ | refine sBa tb ?_); try (first | refine gl tb ?_ | refine gg tb ?_ | refine ll tb ?_ | refine lg tb ?_))
              first | refine G.condD rfl (fun hc => ?_) (fun hc => ?_) | refine G.condN rfl (fun hc => ?_) (fun hc => ?_) | refine G.cond rfl (fun hc => ?_) (fun hc => ?_)
              · have ht : textP path ls = false := by simpa using hc
                rw [if_pos ht]
                try (first | refine gl tb ?_ | refine gg tb ?_ | refine ll tb ?_ | refine lg tb ?_); repeat ((first | refine G.condT rfl ?_ | refine G.condF rfl ?_ | refine sFa tb ?_ | refine sLd tb ?_ | refine sLa tb ?_ | refine sLen tb ?_ | refine sFd tb ?_ | refine sBd tb ?_ | refine sBa tb ?_); try (first | refine gl tb ?_ | refine gg tb ?_ | refine ll tb ?_ | refine lg tb ?_))
                refine sSt tb ?_ (vs := reqC [] [] (.slice none 0 0)) (hv := rfl) (hb := hb9) (h1 := by simp [Value.oneCell', S, reqC])
                intro we hbe hwe
                try (first | refine gl tb ?_ | refine gg tb ?_ | refine ll tb ?_ | refine lg tb ?_); repeat ((first | refine G.condT rfl ?_ | refine G.condF rfl ?_ | refine sFa tb ?_ | refine sLd tb ?_ | refine sLa tb ?_ | refine sLen tb ?_ | refine sFd tb ?_ | refine sBd tb ?_ | refine sBa tb ?_); try (first | refine gl tb ?_ | refine gg tb ?_ | refine ll tb ?_ | refine lg tb ?_))
                exact G.retAT tb rfl rfl hbe.cells (readR_no (Below.wr (hx09) hwe (by omega))) rfl rfl rfl rfl rfl rfl rfl
              · have ht : textP path ls = true := by simpa using hc
                rw [if_neg (by rw [ht]; simp)]
                clear hc ht
                have hctl : ((aget es ctS).getD []).length ≤ 1048576 := by
                  cases hg : aget es ctS with
                  | none => simp
                  | some q => exact hgb _ _ hg
                have hkl := cut_len ((aget es ctS).getD []) [59]
                try (first | refine gl tb ?_ | refine gg tb ?_ | refine ll tb ?_ | refine lg tb ?_); repeat ((first | refine G.condT rfl ?_ | refine G.condF rfl ?_ | refine sFa tb ?_ | refine sLd tb ?_ | refine sLa tb ?_ | refine sLen tb ?_ | refine sFd tb ?_ | refine sBd tb ?_ | refine sBa tb ?_); try (first | refine gl tb ?_ | refine gg tb ?_ | refine ll tb ?_ | refine lg tb ?_))
                refine sLk tb (es := es) ?_
                try (first | refine gl tb ?_ | refine gg tb ?_ | refine ll tb ?_ | refine lg tb ?_); repeat ((first | refine G.condT rfl ?_ | refine G.condF rfl ?_ | refine sFa tb ?_ | refine sLd tb ?_ | refine sLa tb ?_ | refine sLen tb ?_ | refine sFd tb ?_ | refine sBd tb ?_ | refine sBa tb ?_); try (first | refine gl tb ?_ | refine gg tb ?_ | refine ll tb ?_ | refine lg tb ?_))
                refine sCall c51 (cut_ok ((aget es ctS).getD []) [59] w9 (by omega) (hM.to hx09)) ?_
                rintro _ w10 ⟨rfl, hx10⟩
                have hx010 := hx09.trans hx10
                have hb10 := hb9.to hx10
                have hu10 := hu9.to hx10
                generalize (Lib.cut ((aget es ctS).getD []) [59]).1 = kind at hkl ⊢
                try (first | refine gl tb ?_ | refine gg tb ?_ | refine ll tb ?_ | refine lg tb ?_); repeat ((first | refine G.condT rfl ?_ | refine G.condF rfl ?_ | refine sFa tb ?_ | refine sLd tb ?_ | refine sLa tb ?_ | refine sLen tb ?_ | refine sFd tb ?_ | refine sBd tb ?_ | refine sBa tb ?_); try (first | refine gl tb ?_ | refine gg tb ?_ | refine ll tb ?_ | refine lg tb ?_))
                refine sCallx (vs := [S kind, S [32]]) c59 (fun _ => trim_ok kind w10 (by omega)) ?_
                intro w11 hx11
                have hx011 := hx010.trans hx11
                have hb11 := hb10.to hx11
                have hu11 := hu10.to hx11
                have hs7 := hx07.size
                try (first | refine gl tb ?_ | refine gg tb ?_ | refine ll tb ?_ | refine lg tb ?_); repeat ((first | refine G.condT rfl ?_ | refine G.condF rfl ?_ | refine sFa tb ?_ | refine sLd tb ?_ | refine sLa tb ?_ | refine sLen tb ?_ | refine sFd tb ?_ | refine sBd tb ?_ | refine sBa tb ?_); try (first | refine gl tb ?_ | refine gg tb ?_ | refine ll tb ?_ | refine lg tb ?_))
                first | refine G.condD rfl (fun hc => ?_) (fun hc => ?_) | refine G.condN rfl (fun hc => ?_) (fun hc => ?_) | refine G.cond rfl (fun hc => ?_) (fun hc => ?_)
                · rw [if_pos (by exact hc)]
                  clear hc
                  try (first | refine gl tb ?_ | refine gg tb ?_ | refine ll tb ?_ | refine lg tb ?_); repeat ((first | refine G.condT rfl ?_ | refine G.condF rfl ?_ | refine sFa tb ?_ | refine sLd tb ?_ | refine sLa tb ?_ | refine sLen tb ?_ | refine sFd tb ?_ | refine sBd tb ?_ | refine sBa tb ?_); try (first | refine gl tb ?_ | refine gg tb ?_ | refine ll tb ?_ | refine lg tb ?_))
                  refine sCall c57 (params_ok body w11 (by omega) (hM.to hx011)) ?_
                  rintro r3 w12 ⟨hx12, hr3⟩
                  have hx012 := hx011.trans hx12
                  have hb12 := hb11.to hx12
                  have hu12 := hu11.to hx12
                  cases hq : paramsL (piecesL body [38]) with
                  | none =>
                    rw [hq] at hr3
                    subst hr3
                    try (first | refine gl tb ?_ | refine gg tb ?_ | refine ll tb ?_ | refine lg tb ?_); repeat ((first | refine G.condT rfl ?_ | refine G.condF rfl ?_ | refine sFa tb ?_ | refine sLd tb ?_ | refine sLa tb ?_ | refine sLen tb ?_ | refine sFd tb ?_ | refine sBd tb ?_ | refine sBa tb ?_); try (first | refine gl tb ?_ | refine gg tb ?_ | refine ll tb ?_ | refine lg tb ?_))
                    refine sCallx (v := .bool true) (vs := [S [], .slice none 0 0]) c58 ?_ ?_
                    · intro hc
                      simp [cv] at hc
                    intro w13 hx13
                    try (first | refine gl tb ?_ | refine gg tb ?_ | refine ll tb ?_ | refine lg tb ?_); repeat ((first | refine G.condT rfl ?_ | refine G.condF rfl ?_ | refine sFa tb ?_ | refine sLd tb ?_ | refine sLa tb ?_ | refine sLen tb ?_ | refine sFd tb ?_ | refine sBd tb ?_ | refine sBa tb ?_); try (first | refine gl tb ?_ | refine gg tb ?_ | refine ll tb ?_ | refine lg tb ?_))
                    refine sSt tb ?_ (vs := reqC [] [] (.slice none 0 0)) (hv := rfl) (hb := hb12.to hx13) (h1 := by simp [Value.oneCell', S, reqC])
                    intro we hbe hwe
                    try (first | refine gl tb ?_ | refine gg tb ?_ | refine ll tb ?_ | refine lg tb ?_); repeat ((first | refine G.condT rfl ?_ | refine G.condF rfl ?_ | refine sFa tb ?_ | refine sLd tb ?_ | refine sLa tb ?_ | refine sLen tb ?_ | refine sFd tb ?_ | refine sBd tb ?_ | refine sBa tb ?_); try (first | refine gl tb ?_ | refine gg tb ?_ | refine ll tb ?_ | refine lg tb ?_))
                    exact G.retAT tb rfl rfl hbe.cells (readR_no (Below.wr (hx012.trans hx13) hwe (by omega))) rfl rfl rfl rfl rfl rfl rfl
                  | some ms =>
                    rw [hq] at hr3
                    obtain ⟨u2, rfl, hu2⟩ := hr3
                    obtain ⟨hcnt2, hlb2⟩ := paramsL_bd (L := 1048576) _ _ (fun p hq => Nat.le_trans (piecesL_len hq) (by omega)) hq
                    have hpc2 := piecesL_cnt body [38]
                    simp only []
                    try (first | refine gl tb ?_ | refine gg tb ?_ | refine ll tb ?_ | refine lg tb ?_); repeat ((first | refine G.condT rfl ?_ | refine G.condF rfl ?_ | refine sFa tb ?_ | refine sLd tb ?_ | refine sLa tb ?_ | refine sLen tb ?_ | refine sFd tb ?_ | refine sBd tb ?_ | refine sBa tb ?_); try (first | refine gl tb ?_ | refine gg tb ?_ | refine ll tb ?_ | refine lg tb ?_))
                    refine sCallx (vs := [S [], u2]) c58 (fun _ => text_ok [] u2 ms w12 (by simp) hu2.sli (fun x hx => by have := hlb2 x hx; omega) (hT.to hx012)) ?_
                    intro w13 hx13
                    have hx013 := hx012.trans hx13
                    have hb13 := hb12.to hx13
                    have hu13 := hu12.to hx13
                    have hu213 := hu2.to hx13
                    try (first | refine gl tb ?_ | refine gg tb ?_ | refine ll tb ?_ | refine lg tb ?_); repeat ((first | refine G.condT rfl ?_ | refine G.condF rfl ?_ | refine sFa tb ?_ | refine sLd tb ?_ | refine sLa tb ?_ | refine sLen tb ?_ | refine sFd tb ?_ | refine sBd tb ?_ | refine sBa tb ?_); try (first | refine gl tb ?_ | refine gg tb ?_ | refine ll tb ?_ | refine lg tb ?_))
                    first | refine G.condD rfl (fun hc => ?_) (fun hc => ?_) | refine G.condN rfl (fun hc => ?_) (fun hc => ?_) | refine G.cond rfl (fun hc => ?_) (fun hc => ?_)
                    · have ht : textP [] ms = false := by simpa using hc
                      rw [if_pos ht]
                      try (first | refine gl tb ?_ | refine gg tb ?_ | refine ll tb ?_ | refine lg tb ?_); repeat ((first | refine G.condT rfl ?_ | refine G.condF rfl ?_ | refine sFa tb ?_ | refine sLd tb ?_ | refine sLa tb ?_ | refine sLen tb ?_ | refine sFd tb ?_ | refine sBd tb ?_ | refine sBa tb ?_); try (first | refine gl tb ?_ | refine gg tb ?_ | refine ll tb ?_ | refine lg tb ?_))
                      refine sSt tb ?_ (vs := reqC [] [] (.slice none 0 0)) (hv := rfl) (hb := hb13) (h1 := by simp [Value.oneCell', S, reqC])
                      intro we hbe hwe
                      try (first | refine gl tb ?_ | refine gg tb ?_ | refine ll tb ?_ | refine lg tb ?_); repeat ((first | refine G.condT rfl ?_ | refine G.condF rfl ?_ | refine sFa tb ?_ | refine sLd tb ?_ | refine sLa tb ?_ | refine sLen tb ?_ | refine sFd tb ?_ | refine sBd tb ?_ | refine sBa tb ?_); try (first | refine gl tb ?_ | refine gg tb ?_ | refine ll tb ?_ | refine lg tb ?_))
                      exact G.retAT tb rfl rfl hbe.cells (readR_no (Below.wr (hx013) hwe (by omega))) rfl rfl rfl rfl rfl rfl rfl
                    · have ht : textP [] ms = true := by simpa using hc
                      rw [if_neg (by rw [ht]; simp)]
                      clear hc ht
                      have hz13 := hx013.size
                      have hz7 : w7.heap.size ≤ w13.heap.size := ((((((hx8.trans hx9).trans hx10).trans hx11).trans hx12).trans hx13)).size
                      try (first | refine gl tb ?_ | refine gg tb ?_ | refine ll tb ?_ | refine lg tb ?_); repeat ((first | refine G.condT rfl ?_ | refine G.condF rfl ?_ | refine sFa tb ?_ | refine sLd tb ?_ | refine sLa tb ?_ | refine sLen tb ?_ | refine sFd tb ?_ | refine sBd tb ?_ | refine sBa tb ?_); try (first | refine gl tb ?_ | refine gg tb ?_ | refine ll tb ?_ | refine lg tb ?_))
                      refine sApp tb hu13 hu213.sli ?_ (h1 := lab1 _) (hB := by omega)
                      intro v3 w14 ho3 hg3
                      have hB7 : B < w7.heap.size := ((((hb5.to hx6).to hx7)).lt)
                      have hb14 := hb13.grew hg3 (hu13.ne hB7)
                      have hx014 : Ext w w14 := (hg3.below _ ((Below.refl _ _).mono (by omega))).mono (by omega) |> fun h => Below.trans hx013 h
                      have ho3' : LO w14 w7.heap.size v3 (ls ++ ms) := by unfold LO; rw [List.map_append]; exact ho3
                      have ho3s := ho3'.sli
                      obtain ⟨ua, uc, hue, -⟩ := ho3s.len
                      subst hue
                      try (first | refine gl tb ?_ | refine gg tb ?_ | refine ll tb ?_ | refine lg tb ?_); repeat ((first | refine G.condT rfl ?_ | refine G.condF rfl ?_ | refine sFa tb ?_ | refine sLd tb ?_ | refine sLa tb ?_ | refine sLen tb ?_ | refine sFd tb ?_ | refine sBd tb ?_ | refine sBa tb ?_); try (first | refine gl tb ?_ | refine gg tb ?_ | refine ll tb ?_ | refine lg tb ?_))
                      refine sSt tb ?_ (vs := reqC method path (.slice ua _ uc)) (hv := rfl) (hb := hb14) (h1 := by
                        have := (ho3').sli.one
                        simp only [reqC, List.mem_cons, List.not_mem_nil, or_false]
                        rintro x (rfl | rfl | rfl)
                        · rfl
                        · rfl
                        · exact this _ (by simp))
                      intro we hbe hwe
                      try (first | refine gl tb ?_ | refine gg tb ?_ | refine ll tb ?_ | refine lg tb ?_); repeat ((first | refine G.condT rfl ?_ | refine G.condF rfl ?_ | refine sFa tb ?_ | refine sLd tb ?_ | refine sLa tb ?_ | refine sLen tb ?_ | refine sFd tb ?_ | refine sBd tb ?_ | refine sBa tb ?_); try (first | refine gl tb ?_ | refine gg tb ?_ | refine ll tb ?_ | refine lg tb ?_))
                      exact G.retAT tb rfl rfl hbe.cells ⟨Below.wr (hx014) hwe (by omega), _, rfl, (Owns.wr2 (ho3') hwe (ho3'.ne hB7)).sli⟩ rfl rfl rfl rfl rfl rfl rfl
                · rw [if_neg (by rw [show (decide (method = postS) && decide (Lib.trimB kind 32 = formS)) = false from hc]; simp)]
                  clear hc
                  have hB7 : B < w7.heap.size := ((((hb5.to hx6).to hx7)).lt)
                  have hus := hu11.sli
                  obtain ⟨ua, uc, hue, -⟩ := hus.len
                  subst hue
                  try (first | refine gl tb ?_ | refine gg tb ?_ | refine ll tb ?_ | refine lg tb ?_); repeat ((first | refine G.condT rfl ?_ | refine G.condF rfl ?_ | refine sFa tb ?_ | refine sLd tb ?_ | refine sLa tb ?_ | refine sLen tb ?_ | refine sFd tb ?_ | refine sBd tb ?_ | refine sBa tb ?_); try (first | refine gl tb ?_ | refine gg tb ?_ | refine ll tb ?_ | refine lg tb ?_))
                  refine sSt tb ?_ (vs := reqC method path (.slice ua _ uc)) (hv := rfl) (hb := hb11) (h1 := by
                    have := (hu11).sli.one
                    simp only [reqC, List.mem_cons, List.not_mem_nil, or_false]
                    rintro x (rfl | rfl | rfl)
                    · rfl
                    · rfl
                    · exact this _ (by simp))
                  intro we hbe hwe
                  try (first | refine gl tb ?_ | refine gg tb ?_ | refine ll tb ?_ | refine lg tb ?_); repeat ((first | refine G.condT rfl ?_ | refine G.condF rfl ?_ | refine sFa tb ?_ | refine sLd tb ?_ | refine sLa tb ?_ | refine sLen tb ?_ | refine sFd tb ?_ | refine sBd tb ?_ | refine sBa tb ?_); try (first | refine gl tb ?_ | refine gg tb ?_ | refine ll tb ?_ | refine lg tb ?_))
                  exact G.retAT tb rfl rfl hbe.cells ⟨Below.wr (hx011) hwe (by omega), _, rfl, (Owns.wr2 (hu11) hwe (hu11.ne hB7)).sli⟩ rfl rfl rfl rfl rfl rfl rfl
end Go.Proofs.YtlaingmhdgpkdaaGreatDoor
