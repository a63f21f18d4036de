/- Headers, and the length that they say; walked. -/
import Derived.Test.YtlaingmhdgpkdaaGreatDoorZQ
open Go Go.Vg Go.RowKit Go.Proofs Go.Proofs.YtlaingmhdgpkdaaGreatDoor
namespace Go.Proofs.YtlaingmhdgpkdaaGreatDoor
set_option linter.unusedSimpArgs false

def clS : List UInt8 := [99, 111, 110, 116, 101, 110, 116, 45, 108, 101, 110, 103, 116, 104]
def lineBad (s : List UInt8) : Bool := (!(Lib.cut s [58]).2.2 || !madeP hdC (Lib.cut s [58]).1) || (!decide ((Lib.cut s [58]).2.1 = []) && !madeP (rngC 32 126) (Lib.cut s [58]).2.1)
def nameP (s : List UInt8) : List UInt8 := Lib.toLowerA (Lib.cut s [58]).1
def lineP (out : TT) (s : List UInt8) : Option TT := if lineBad s = true then none else
  if (!(aget out (nameP s)).isSome || !decide (nameP s = clS)) = true then some (aput out (nameP s) (Lib.trimB (Lib.cut s [58]).2.1 32)) else none
/-- a request's headers -/
def headP : TT → List (List UInt8) → Option TT
  | out, [] => some out
  | out, s :: r => match lineP out s with
    | some out' => headP out' r
    | none => none
theorem trim_ok (s : List UInt8) (w : World) (hs : s.length ≤ 9223372036854775807) : Ret Tryz.prog 59 ⟨[S s, S [32]]⟩ w fun r w' => r = S (Lib.trimB s 32) ∧ Ext w w' :=
  Calls.mono (Any.strings_Trim_one Tryz.lays160 ⟨⟨s⟩⟩ 32 (by decide) w hs) fun _ w' ⟨he, hw⟩ => ⟨_, he, rfl, by
    rcases hw with rfl | rfl
    · exact Ext.refl _
    · exact Ext.drew _⟩
theorem lower_ok (s : List UInt8) (w : World) (hs : s.length ≤ 140737488355328) (ha : ∀ b ∈ s, b.toNat < 128) : Ret Tryz.prog 96 ⟨[S s]⟩ w fun r w' => r = S (Lib.toLowerA s) ∧ Ext w w' :=
  Calls.mono (Any.strings_ToLower_ascii Tryz.lays159 Tryz.Builder_Extra_159 ⟨⟨s⟩⟩ w hs (fun j b hb => ha b (List.mem_of_getElem? hb))) fun _ w' ⟨he, hw⟩ => ⟨_, he, rfl, hw⟩
theorem hdC_asc {c : UInt8} (h : hdC c = true) : c.toNat < 128 := by
  unfold hdC rngC at h
  simp only [Bool.or_eq_true, Bool.and_eq_true, decide_eq_true_eq] at h
  omega
theorem made_all {p : UInt8 → Bool} {s : List UInt8} (h : madeP p s = true) : ∀ b ∈ s, p b = true := by
  unfold madeP at h
  simp only [Bool.and_eq_true, List.all_eq_true] at h
  exact h.1
theorem trimB_len (s : List UInt8) (c : UInt8) : (Lib.trimB s c).length ≤ s.length := by
  unfold Lib.trimB Lib.trimLeftB Lib.trimRightB
  refine Nat.le_trans (List.dropWhile_sublist _).length_le ?_
  rw [List.length_reverse]
  refine Nat.le_trans (List.dropWhile_sublist _).length_le ?_
  rw [List.length_reverse]; exact Nat.le_refl _

theorem headers_ok (v : Value) (ls : List (List UInt8)) (w : World) (hv : Strs w v ls) (hl : ∀ s ∈ ls, s.length ≤ 4000000000) (hM : MaxC w) :
    Ret Tryz.prog 54 ⟨[v]⟩ w fun r w' => Ext w w' ∧ (match headP [] ls with
      | some es => ∃ b, r = .tuple ⟨[.map (some b), .bool true]⟩ ∧ Mp w' b es
      | none => r = .tuple ⟨[.map none, .bool false]⟩) := by
  have hbd := hv.bound
  rw [List.length_map] at hbd
  refine ret_of_G Tryz.func54 rfl Tryz.ntmps54 rfl ?_
  simp only [argEnv]
  try (first | refine gl tb ?_ | refine gg tb ?_ | refine ll tb ?_ | refine lg tb ?_); repeat ((first | refine G.condT rfl ?_ | refine G.condF rfl ?_ | refine sFa tb ?_ | refine sLd tb ?_ | refine sLa tb ?_ | refine sLen tb ?_ | refine sFd tb ?_ | refine sBd tb ?_ | refine sBa tb ?_); try (first | refine gl tb ?_ | refine gg tb ?_ | refine ll tb ?_ | refine lg tb ?_))
  refine G.scope rfl rfl ?_
  try (first | refine gl tb ?_ | refine gg tb ?_ | refine ll tb ?_ | refine lg tb ?_); repeat ((first | refine G.condT rfl ?_ | refine G.condF rfl ?_ | refine sFa tb ?_ | refine sLd tb ?_ | refine sLa tb ?_ | refine sLen tb ?_ | refine sFd tb ?_ | refine sBd tb ?_ | refine sBa tb ?_); try (first | refine gl tb ?_ | refine gg tb ?_ | refine ll tb ?_ | refine lg tb ?_))
  refine sMk ?_
  intro w1 hm1 hs1 hx1
  try (first | refine gl tb ?_ | refine gg tb ?_ | refine ll tb ?_ | refine lg tb ?_); repeat ((first | refine G.condT rfl ?_ | refine G.condF rfl ?_ | refine sFa tb ?_ | refine sLd tb ?_ | refine sLa tb ?_ | refine sLen tb ?_ | refine sFd tb ?_ | refine sBd tb ?_ | refine sBa tb ?_); try (first | refine gl tb ?_ | refine gg tb ?_ | refine ll tb ?_ | refine lg tb ?_))
  refine G.label ?_
  have hv1 := hv.to hx1
  try (first | refine gl tb ?_ | refine gg tb ?_ | refine ll tb ?_ | refine lg tb ?_); repeat ((first | refine G.condT rfl ?_ | refine G.condF rfl ?_ | refine sFa tb ?_ | refine sLd tb ?_ | refine sLa tb ?_ | refine sLen tb ?_ | refine sFd tb ?_ | refine sBd tb ?_ | refine sBa tb ?_); try (first | refine gl tb ?_ | refine gg tb ?_ | refine ll tb ?_ | refine lg tb ?_))
  rw [List.length_map]
  try (first | refine gl tb ?_ | refine gg tb ?_ | refine ll tb ?_ | refine lg tb ?_); repeat ((first | refine G.condT rfl ?_ | refine G.condF rfl ?_ | refine sFa tb ?_ | refine sLd tb ?_ | refine sLa tb ?_ | refine sLen tb ?_ | refine sFd tb ?_ | refine sBd tb ?_ | refine sBa tb ?_); try (first | refine gl tb ?_ | refine gg tb ?_ | refine ll tb ?_ | refine lg tb ?_))
  obtain ⟨B, hB⟩ : ∃ B, B = w.heap.size := ⟨_, rfl⟩
  rw [← hB] at hm1 ⊢
  refine (G.loop (fun k : Nat => [(4, none, .map (some B)), (13, none, v), (14, none, .int .i64 ls.length), (15, none, .int .i64 k)]) (fun k W => Ext w W ∧ k ≤ ls.length ∧ ∃ es, Mp W B es ∧ headP es (ls.drop k) = headP [] ls) (fun k => ls.length - k) 0 (by repeat (first | exact Sub.nil _ | refine Sub.cons rfl ?_)) ⟨hx1, by omega, [], hm1, by simp⟩ ?_)
  rintro k W ⟨hx, hk, es, hm, hh⟩
  have hvW := hv.to hx
  try (first | refine gl tb ?_ | refine gg tb ?_ | refine ll tb ?_ | refine lg tb ?_); repeat ((first | refine G.condT rfl ?_ | refine G.condF rfl ?_ | refine sFa tb ?_ | refine sLd tb ?_ | refine sLa tb ?_ | refine sLen tb ?_ | refine sFd tb ?_ | refine sBd tb ?_ | refine sBa tb ?_); try (first | refine gl tb ?_ | refine gg tb ?_ | refine ll tb ?_ | refine lg tb ?_))
  first | refine G.condD rfl (fun hc => ?_) (fun hc => ?_) | refine G.condN rfl (fun hc => ?_) (fun hc => ?_) | refine G.cond rfl (fun hc => ?_) (fun hc => ?_)
  · have hlt : k < ls.length := by omega
    obtain ⟨s, hget, hmem, hsk⟩ := Strs.at hlt
    have hsl := hl s hmem
    have hcl := cut_len s [58]
    have hdk : ls.drop k = s :: ls.drop (k + 1) := by
      rw [List.drop_eq_getElem_cons hlt]
      congr 1
      have := (List.getElem?_eq_some_iff.1 hsk).2
      exact this
    rw [hdk] at hh
    try (first | refine gl tb ?_ | refine gg tb ?_ | refine ll tb ?_ | refine lg tb ?_); repeat ((first | refine G.condT rfl ?_ | refine G.condF rfl ?_ | refine sFa tb ?_ | refine sLd tb ?_ | refine sLa tb ?_ | refine sLen tb ?_ | refine sFd tb ?_ | refine sBd tb ?_ | refine sIa tb k ?_); try (first | refine gl tb ?_ | refine gg tb ?_ | refine ll tb ?_ | refine lg tb ?_))
    refine sCall c51 (cut_ok s [58] W (by omega) (hM.to hx)) ?_
    rintro _ W2 ⟨rfl, hx2⟩
    try (first | refine gl tb ?_ | refine gg tb ?_ | refine ll tb ?_ | refine lg tb ?_); repeat ((first | refine G.condT rfl ?_ | refine G.condF rfl ?_ | refine sFa tb ?_ | refine sLd tb ?_ | refine sLa tb ?_ | refine sLen tb ?_ | refine sFd tb ?_ | refine sBd tb ?_ | refine sBa tb ?_); try (first | refine gl tb ?_ | refine gg tb ?_ | refine ll tb ?_ | refine lg tb ?_))
    refine sCallq c89 (fun _ => made_ok (Lib.cut s [58]).1 _ _ W2 (by omega) c92 hd_ok) ?_
    try (first | refine gl tb ?_ | refine gg tb ?_ | refine ll tb ?_ | refine lg tb ?_); repeat ((first | refine G.condT rfl ?_ | refine G.condF rfl ?_ | refine sFa tb ?_ | refine sLd tb ?_ | refine sLa tb ?_ | refine sLen tb ?_ | refine sFd tb ?_ | refine sBd tb ?_ | refine sBa tb ?_); try (first | refine gl tb ?_ | refine gg tb ?_ | refine ll tb ?_ | refine lg tb ?_))
    refine sCallq c89 (fun _ => made_ok (Lib.cut s [58]).2.1 _ _ W2 (by omega) c95 asc_ok) ?_
    try (first | refine gl tb ?_ | refine gg tb ?_ | refine ll tb ?_ | refine lg tb ?_); repeat ((first | refine G.condT rfl ?_ | refine G.condF rfl ?_ | refine sFa tb ?_ | refine sLd tb ?_ | refine sLa tb ?_ | refine sLen tb ?_ | refine sFd tb ?_ | refine sBd tb ?_ | refine sBa tb ?_); try (first | refine gl tb ?_ | refine gg tb ?_ | refine ll tb ?_ | refine lg tb ?_))
    first | refine G.condD rfl (fun hc => ?_) (fun hc => ?_) | refine G.condN rfl (fun hc => ?_) (fun hc => ?_) | refine G.cond rfl (fun hc => ?_) (fun hc => ?_)
    · have hb : lineBad s = true := hc
      have hno : headP [] ls = none := by rw [← hh]; simp only [headP, lineP, hb, if_true]
      try (first | refine gl tb ?_ | refine gg tb ?_ | refine ll tb ?_ | refine lg tb ?_); repeat ((first | refine G.condT rfl ?_ | refine G.condF rfl ?_ | refine sFa tb ?_ | refine sLd tb ?_ | refine sLa tb ?_ | refine sLen tb ?_ | refine sFd tb ?_ | refine sBd tb ?_ | refine sBa tb ?_); try (first | refine gl tb ?_ | refine gg tb ?_ | refine ll tb ?_ | refine lg tb ?_))
      refine G.ret2 rfl rfl rfl rfl rfl ?_
      exact ⟨hx.trans hx2, by rw [hno]⟩
    · have hb : lineBad s = false := hc
      have hasc : ∀ b ∈ (Lib.cut s [58]).1, b.toNat < 128 := by
        have : madeP hdC (Lib.cut s [58]).1 = true := by
          unfold lineBad at hb
          simp only [Bool.or_eq_false_iff, Bool.not_eq_false'] at hb
          exact hb.1.2
        exact fun b hb => hdC_asc (made_all this b hb)
      try (first | refine gl tb ?_ | refine gg tb ?_ | refine ll tb ?_ | refine lg tb ?_); repeat ((first | refine G.condT rfl ?_ | refine G.condF rfl ?_ | refine sFa tb ?_ | refine sLd tb ?_ | refine sLa tb ?_ | refine sLen tb ?_ | refine sFd tb ?_ | refine sBd tb ?_ | refine sBa tb ?_); try (first | refine gl tb ?_ | refine gg tb ?_ | refine ll tb ?_ | refine lg tb ?_))
      refine sCall c96 (lower_ok _ W2 (by omega) hasc) ?_
      rintro _ W3 ⟨rfl, hx3⟩
      have hx23 := hx2.trans hx3
      have hm3 := hm.to hx23
      try (first | refine gl tb ?_ | refine gg tb ?_ | refine ll tb ?_ | refine lg tb ?_); repeat ((first | refine G.condT rfl ?_ | refine G.condF rfl ?_ | refine sFa tb ?_ | refine sLd tb ?_ | refine sLa tb ?_ | refine sLen tb ?_ | refine sFd tb ?_ | refine sBd tb ?_ | refine sBa tb ?_); try (first | refine gl tb ?_ | refine gg tb ?_ | refine ll tb ?_ | refine lg tb ?_))
      refine sLko tb (es := es) ?_
      try (first | refine gl tb ?_ | refine gg tb ?_ | refine ll tb ?_ | refine lg tb ?_); repeat ((first | refine G.condT rfl ?_ | refine G.condF rfl ?_ | refine sFa tb ?_ | refine sLd tb ?_ | refine sLa tb ?_ | refine sLen tb ?_ | refine sFd tb ?_ | refine sBd tb ?_ | refine sBa tb ?_); try (first | refine gl tb ?_ | refine gg tb ?_ | refine ll tb ?_ | refine lg tb ?_))
      have hlp : lineP es s = if (!(aget es (nameP s)).isSome || !decide (nameP s = clS)) = true then some (aput es (nameP s) (Lib.trimB (Lib.cut s [58]).2.1 32)) else none := by
        unfold lineP; rw [hb]; rfl
      first | refine G.condD rfl (fun hc => ?_) (fun hc => ?_) | refine G.condN rfl (fun hc => ?_) (fun hc => ?_) | refine G.cond rfl (fun hc => ?_) (fun hc => ?_)
      · have hc' : (!(aget es (nameP s)).isSome || !decide (nameP s = clS)) = true := hc
        rw [if_pos hc'] at hlp
        try (first | refine gl tb ?_ | refine gg tb ?_ | refine ll tb ?_ | refine lg tb ?_); repeat ((first | refine G.condT rfl ?_ | refine G.condF rfl ?_ | refine sFa tb ?_ | refine sLd tb ?_ | refine sLa tb ?_ | refine sLen tb ?_ | refine sFd tb ?_ | refine sBd tb ?_ | refine sBa tb ?_); try (first | refine gl tb ?_ | refine gg tb ?_ | refine ll tb ?_ | refine lg tb ?_))
        refine sCall c59 (trim_ok (Lib.cut s [58]).2.1 W3 (by omega)) ?_
        rintro _ W4 ⟨rfl, hx4⟩
        have hx24 := hx23.trans hx4
        refine sMu tb ?_ (hm.to hx24)
        intro W5 hm5 hw5
        try (first | refine gl tb ?_ | refine gg tb ?_ | refine ll tb ?_ | refine lg tb ?_); repeat ((first | refine G.condT rfl ?_ | refine G.condF rfl ?_ | refine sFa tb ?_ | refine sLd tb ?_ | refine sLa tb ?_ | refine sLen tb ?_ | refine sFd tb ?_ | refine sBd tb ?_ | refine sBa tb ?_); try (first | refine gl tb ?_ | refine gg tb ?_ | refine ll tb ?_ | refine lg tb ?_))
        refine sAd tb ?_
        try (first | refine gl tb ?_ | refine gg tb ?_ | refine ll tb ?_ | refine lg tb ?_); repeat ((first | refine G.condT rfl ?_ | refine G.condF rfl ?_ | refine sFa tb ?_ | refine sLd tb ?_ | refine sLa tb ?_ | refine sLen tb ?_ | refine sFd tb ?_ | refine sBd tb ?_ | refine sBa tb ?_); try (first | refine gl tb ?_ | refine gg tb ?_ | refine ll tb ?_ | refine lg tb ?_))
        exact G.lp (k + 1) (by repeat (first | exact Sub.nil _ | refine Sub.cons rfl ?_)) ⟨Below.wr (hx.trans hx24) hw5 (by omega), by omega, _, hm5, by rw [← hh]; simp only [headP, hlp]; rfl⟩ (by omega)
      · have hc' : ¬ (!(aget es (nameP s)).isSome || !decide (nameP s = clS)) = true := by rw [show (!(aget es (nameP s)).isSome || !decide (nameP s = clS)) = false from hc]; simp
        rw [if_neg hc'] at hlp
        have hno : headP [] ls = none := by rw [← hh]; simp only [headP, hlp]
        try (first | refine gl tb ?_ | refine gg tb ?_ | refine ll tb ?_ | refine lg tb ?_); repeat ((first | refine G.condT rfl ?_ | refine G.condF rfl ?_ | refine sFa tb ?_ | refine sLd tb ?_ | refine sLa tb ?_ | refine sLen tb ?_ | refine sFd tb ?_ | refine sBd tb ?_ | refine sBa tb ?_); try (first | refine gl tb ?_ | refine gg tb ?_ | refine ll tb ?_ | refine lg tb ?_))
        refine G.ret2 rfl rfl rfl rfl rfl ?_
        exact ⟨hx.trans hx23, by rw [hno]⟩
  · have hk' : k = ls.length := by omega
    rw [hk', List.drop_length] at hh
    have hyes : headP [] ls = some es := by rw [← hh]; rfl
    try (first | refine gl tb ?_ | refine gg tb ?_ | refine ll tb ?_ | refine lg tb ?_); repeat ((first | refine G.condT rfl ?_ | refine G.condF rfl ?_ | refine sFa tb ?_ | refine sLd tb ?_ | refine sLa tb ?_ | refine sLen tb ?_ | refine sFd tb ?_ | refine sBd tb ?_ | refine sBa tb ?_); try (first | refine gl tb ?_ | refine gg tb ?_ | refine ll tb ?_ | refine lg tb ?_))
    refine G.ret2 rfl rfl rfl rfl rfl ?_
    exact ⟨hx, by rw [hyes]; exact ⟨_, rfl, hm⟩⟩

/-- are a body's bytes as many as the headers say? -/
def lengthP (es : TT) (body : List UInt8) : Bool := match aget es clS with
  | none => decide (body = [])
  | some said => match intP said with
    | some n => decide (n = body.length)
    | none => false
theorem length_ok (b : Nat) (es : TT) (body : List UInt8) (w : World) (hm : Mp w b es) (hb : body.length ≤ 9223372036854775807) (hl : ∀ v, aget es clS = some v → v.length ≤ 4000000000) :
    Ret Tryz.prog 55 ⟨[.map (some b), S body]⟩ w fun r w' => r = .bool (lengthP es body) ∧ w' = w := by
  refine ret_of_G Tryz.func55 rfl Tryz.ntmps55 rfl ?_
  simp only [argEnv]
  try (first | refine gl tb ?_ | refine gg tb ?_ | refine ll tb ?_ | refine lg tb ?_); repeat ((first | refine G.condT rfl ?_ | refine G.condF rfl ?_ | refine sFa tb ?_ | refine sLd tb ?_ | refine sLa tb ?_ | refine sLen tb ?_ | refine sFd tb ?_ | refine sBd tb ?_ | refine sBa tb ?_); try (first | refine gl tb ?_ | refine gg tb ?_ | refine ll tb ?_ | refine lg tb ?_))
  refine sLko tb (es := es) ?_
  have hl' := hl
  unfold clS at hl'
  cases ha : aget es clS with
  | none =>
    have hp : lengthP es body = decide (body = []) := by unfold lengthP; rw [ha]
    unfold clS at ha
    rw [ha]
    try (first | refine gl tb ?_ | refine gg tb ?_ | refine ll tb ?_ | refine lg tb ?_); repeat ((first | refine G.condT rfl ?_ | refine G.condF rfl ?_ | refine sFa tb ?_ | refine sLd tb ?_ | refine sLa tb ?_ | refine sLen tb ?_ | refine sFd tb ?_ | refine sBd tb ?_ | refine sBa tb ?_); try (first | refine gl tb ?_ | refine gg tb ?_ | refine ll tb ?_ | refine lg tb ?_))
    refine G.ret1 rfl rfl rfl rfl ?_
    exact ⟨by rw [hp], rfl⟩
  | some said =>
    have hsl := hl _ ha
    have hp : lengthP es body = match intP said with | some n => decide (n = body.length) | none => false := by unfold lengthP; rw [ha]
    unfold clS at ha
    rw [ha]
    try (first | refine gl tb ?_ | refine gg tb ?_ | refine ll tb ?_ | refine lg tb ?_); repeat ((first | refine G.condT rfl ?_ | refine G.condF rfl ?_ | refine sFa tb ?_ | refine sLd tb ?_ | refine sLa tb ?_ | refine sLen tb ?_ | refine sFd tb ?_ | refine sBd tb ?_ | refine sBa tb ?_); try (first | refine gl tb ?_ | refine gg tb ?_ | refine ll tb ?_ | refine lg tb ?_))
    refine sCall c97 (int_ok said w hsl) ?_
    rintro r w1 ⟨rfl, hw⟩
    obtain rfl : w = w1 := hw.symm
    cases hi : intP said with
    | none =>
      rw [hi] at hp
      try (first | refine gl tb ?_ | refine gg tb ?_ | refine ll tb ?_ | refine lg tb ?_); repeat ((first | refine G.condT rfl ?_ | refine G.condF rfl ?_ | refine sFa tb ?_ | refine sLd tb ?_ | refine sLa tb ?_ | refine sLen tb ?_ | refine sFd tb ?_ | refine sBd tb ?_ | refine sBa tb ?_); try (first | refine gl tb ?_ | refine gg tb ?_ | refine ll tb ?_ | refine lg tb ?_))
      refine G.ret1 rfl rfl rfl rfl ?_
      exact ⟨by rw [hp]; rfl, rfl⟩
    | some n =>
      rw [hi] at hp
      try (first | refine gl tb ?_ | refine gg tb ?_ | refine ll tb ?_ | refine lg tb ?_); repeat ((first | refine G.condT rfl ?_ | refine G.condF rfl ?_ | refine sFa tb ?_ | refine sLd tb ?_ | refine sLa tb ?_ | refine sLen tb ?_ | refine sFd tb ?_ | refine sBd tb ?_ | refine sBa tb ?_); try (first | refine gl tb ?_ | refine gg tb ?_ | refine ll tb ?_ | refine lg tb ?_))
      refine G.ret1 rfl rfl rfl rfl ?_
      exact ⟨by rw [hp]; rfl, rfl⟩

end Go.Proofs.YtlaingmhdgpkdaaGreatDoor
