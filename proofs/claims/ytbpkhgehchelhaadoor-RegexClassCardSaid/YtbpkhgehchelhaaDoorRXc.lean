/- RegexClass, walked. -/
import Derived.Test.YtbpkhgehchelhaaDoorRX
import Derived.Test.YtbpkhgehchelhaaDoorRAq
import Derived.Test.YtbpkhgehchelhaaDoorGV2
open Go Go.Vg Go.RowKit Go.Proofs Go.Proofs.YtbpkhgehchelhaaDoor
namespace Go.Proofs.YtbpkhgehchelhaaDoor
set_option linter.unusedSimpArgs false

def runC (c : Int) : List Value := [.int .i32 c]
def isLow (c : Int) : Bool := decide (97 ≤ c) && decide (c ≤ 122)
def filt (l : List Int) : List UInt8 := (l.filter isLow).map fun c => UInt8.ofNat c.toNat
theorem filt_snoc (l : List Int) (c : Int) : filt (l ++ [c]) = filt l ++ (if isLow c then [UInt8.ofNat c.toNat] else []) := by
  unfold filt
  rw [List.filter_append, List.map_append]
  congr 1
  by_cases h : isLow c = true
  · rw [if_pos h]; simp [h]
  · rw [if_neg h]; simp [h]
theorem filt_len (l : List Int) : (filt l).length ≤ l.length := by unfold filt; rw [List.length_map]; exact List.length_filter_le _ _
theorem low_nat {c : Int} (h : isLow c = true) : 97 ≤ c ∧ c ≤ 122 := by
  unfold isLow at h
  simpa using h
theorem low_letter {c : Int} (h : isLow c = true) : Rx.letter (UInt8.ofNat c.toNat) ∧ ((UInt8.ofNat c.toNat).toNat : Int) = c := by
  obtain ⟨h1, h2⟩ := low_nat h
  have : (UInt8.ofNat c.toNat).toNat = c.toNat := UInt8.toNat_ofNat_of_lt' (show c.toNat < 256 by omega)
  refine ⟨⟨?_, ?_⟩, ?_⟩ <;> rw [this] <;> omega
theorem filt_letter {l : List Int} {b : UInt8} (h : b ∈ filt l) : Rx.letter b := by
  unfold filt at h
  obtain ⟨c, hc, rfl⟩ := List.mem_map.1 h
  exact (low_letter (List.mem_filter.1 hc).2).1
theorem encL_low {c : Int} (h : isLow c = true) : encL c = [UInt8.ofNat c.toNat] := by
  obtain ⟨h1, h2⟩ := low_nat h
  have hv : Utf8.valid c = true := by unfold Utf8.valid; simp; omega
  unfold encL Utf8.encode
  simp only [hv, if_true]
  rw [if_pos (by omega)]
theorem utf8x_ok (s : List UInt8) (i : Nat) (w : World) (hs : s.length ≤ 140737488355328) (hi : i < s.length) :
    Ret Tryd.prog 23 ⟨[S s, .int .i64 i]⟩ w fun v w' => v = .int .i64 (u8len s i) ∧ Ext w w' :=
  Ret.mono (utf8_ok s i w hs hi) fun _ _ ⟨h1, h2⟩ => ⟨h1, by rw [h2]; exact Ext.refl _⟩
theorem one_eq (x : List UInt8) : (decide ((0 : Int) < x.length) && (decide ((u8len x 0 : Int) = x.length) || decide ((u8len x 0 : Int) = 0) && decide ((x.length : Int) = 1))) = Rx.one1' x := by
  unfold Rx.one1'
  rw [Bool.eq_iff_iff]
  simp only [Bool.and_eq_true, Bool.or_eq_true, decide_eq_true_eq]
  constructor
  · rintro ⟨h1, h2⟩
    have h3 := u8_dec (s := x) (i := 0) (by omega)
    split at h3 <;> omega
  · rintro ⟨h1, h2⟩
    have h3 := u8_dec h1
    split at h3 <;> omega

set_option maxHeartbeats 16000000 in
theorem class_law (cs : List Int) (lo hi : Int) (cv lv : Value) (ss : List (List UInt8)) (w : World) (hcv : Sli w cv 1 (cs.map runC)) (hv : Sli w lv 1 (ss.map strC)) (hz : ∀ x ∈ ss, x.length ≤ 9223372036854775807) (hT : Tabs w) :
    Ret Tryd.prog 6 ⟨[.agg ⟨[cv, .int .i32 lo, .int .i32 hi, lv]⟩]⟩ w fun r w' => r = .bool true ∧ Ext w w' := by
  have hbd : cs.length ≤ 9223372036854775807 := by have := Sli.bound hcv; simpa using this
  refine ret_of_G Tryd.func6 rfl Tryd.ntmps6 rfl ?_
  simp only [argEnv]
  try (first | refine gl tb ?_ | refine gg tb ?_ | refine ll tb ?_ | refine lg tb ?_); repeat ((first | refine G.condT rfl ?_ | refine G.condF rfl ?_ | refine sFa tb ?_ | refine sLd tb ?_ | refine sLa tb ?_ | refine sLen tb ?_ | refine sFd tb ?_ | refine sBd tb ?_ | refine sBa tb ?_); try (first | refine gl tb ?_ | refine gg tb ?_ | refine ll tb ?_ | refine lg tb ?_))
  refine sBox (us := [cv, .int .i32 lo, .int .i32 hi, lv]) (fun W1 hb1 hs1 hx1 => ?_) (hv := rfl)
  try (first | refine gl tb ?_ | refine gg tb ?_ | refine ll tb ?_ | refine lg tb ?_); repeat ((first | refine G.condT rfl ?_ | refine G.condF rfl ?_ | refine sFa tb ?_ | refine sLd tb ?_ | refine sLa tb ?_ | refine sLen tb ?_ | refine sFd tb ?_ | refine sBd tb ?_ | refine sBa tb ?_); try (first | refine gl tb ?_ | refine gg tb ?_ | refine ll tb ?_ | refine lg tb ?_))
  refine G.regionM [(0, true), (1, true), (2, true), (3, true), (4, true), (5, true), (6, true), (7, true), (8, true), (9, true), (10, true), (11, true)] (Ext W1) (by kernel_rfl) (by kernel_rfl) rfl mixed (Ext.drew W1) rfl ?_
  try (refine mm tb ?_); repeat ((first | refine dFa tb ?_ | refine dLd tb ?_ | refine dLa tb ?_ | refine dLen tb ?_ | refine dFd tb ?_); try (refine mm tb ?_))
  refine GM.nil ?_
  have hxd := hx1.drew'
  generalize W1.drew = W2 at hxd ⊢
  clear hb1 hs1 hx1
  have hll0 : (cs.map runC).length = cs.length := by simp
  try (first | refine gl tb ?_ | refine gg tb ?_ | refine ll tb ?_ | refine lg tb ?_); repeat ((first | refine G.condT rfl ?_ | refine G.condF rfl ?_ | refine sFa tb ?_ | refine sLd tb ?_ | refine sLa tb ?_ | refine sLen tb ?_ | refine sFd tb ?_ | refine sBd tb ?_ | refine sBa tb ?_); try (first | refine gl tb ?_ | refine gg tb ?_ | refine ll tb ?_ | refine lg tb ?_))
  refine (G.loop (fun i : Nat => [(3, none, cv), (4, none, .int .i32 lo), (5, none, .int .i32 hi), (6, none, lv), (7, none, S (filt (cs.take i))), (8, none, .int .i64 i)]) (fun i W => Ext W2 W ∧ i ≤ cs.length ∧ i ≤ 12) (fun i => 12 - i) 0 (by repeat (first | exact Sub.nil _ | refine Sub.cons rfl ?_)) ⟨Ext.refl _, Nat.zero_le _, Nat.zero_le _⟩ ?_)
  rintro i W ⟨hx, hi1, hi2⟩
  have hcW := hcv.to (hxd.trans hx)
  have hfl := filt_len (cs.take i)
  rw [List.length_take] at hfl
  try (first | refine gl tb ?_ | refine gg tb ?_ | refine ll tb ?_ | refine lg tb ?_); repeat ((first | refine G.condT rfl ?_ | refine G.condF rfl ?_ | refine sFa tb ?_ | refine sLd tb ?_ | refine sLa tb ?_ | refine sLen tb ?_ | refine sFd tb ?_ | refine sBd tb ?_ | refine sBa tb ?_); try (first | refine gl tb ?_ | refine gg tb ?_ | refine ll tb ?_ | refine lg tb ?_))
  rw [hll0]
  try (first | refine gl tb ?_ | refine gg tb ?_ | refine ll tb ?_ | refine lg tb ?_); repeat ((first | refine G.condT rfl ?_ | refine G.condF rfl ?_ | refine sFa tb ?_ | refine sLd tb ?_ | refine sLa tb ?_ | refine sLen tb ?_ | refine sFd tb ?_ | refine sBd tb ?_ | refine sBa tb ?_); try (first | refine gl tb ?_ | refine gg tb ?_ | refine ll tb ?_ | refine lg tb ?_))
  first | refine G.condD rfl (fun hc => ?_) (fun hc => ?_) | refine G.condN rfl (fun hc => ?_) (fun hc => ?_) | refine G.cond rfl (fun hc => ?_) (fun hc => ?_)
  · have hlt : i < cs.length ∧ i < 12 := by
      simp only [Bool.and_eq_true, decide_eq_true_eq] at hc
      omega
    have hget : (cs.map runC)[i]? = some [.int .i32 cs[i]] := by rw [List.getElem?_map, List.getElem?_eq_getElem hlt.1]; rfl
    have hsn : filt (cs.take (i + 1)) = filt (cs.take i) ++ (if isLow cs[i] then [UInt8.ofNat cs[i].toNat] else []) := by rw [List.take_succ_eq_append_getElem hlt.1, filt_snoc]
    generalize cs[i] = c at hget hsn
    try (first | refine gl tb ?_ | refine gg tb ?_ | refine ll tb ?_ | refine lg tb ?_); repeat ((first | refine G.condT rfl ?_ | refine G.condF rfl ?_ | refine sFa tb ?_ | refine sLd tb ?_ | refine sLa tb ?_ | refine sLen tb ?_ | refine sFd tb ?_ | refine sBd tb ?_ | refine sBa tb ?_); try (first | refine gl tb ?_ | refine gg tb ?_ | refine ll tb ?_ | refine lg tb ?_))
    refine sIa tb i ?_ (hj := fun _ => ⟨rfl, by rw [hll0]; exact hlt.1⟩)
    try (first | refine gl tb ?_ | refine gg tb ?_ | refine ll tb ?_ | refine lg tb ?_); repeat ((first | refine G.condT rfl ?_ | refine G.condF rfl ?_ | refine sFa tb ?_ | refine sLd tb ?_ | refine sLa tb ?_ | refine sLen tb ?_ | refine sFd tb ?_ | refine sBd tb ?_ | refine sBa tb ?_); try (first | refine gl tb ?_ | refine gg tb ?_ | refine ll tb ?_ | refine lg tb ?_))
    first | refine G.condD rfl (fun hc => ?_) (fun hc => ?_) | refine G.condN rfl (fun hc => ?_) (fun hc => ?_) | refine G.cond rfl (fun hc => ?_) (fun hc => ?_)
    · have hl : ¬ isLow c = true := by
        intro h
        have := low_nat h
        simp only [Bool.or_eq_true, decide_eq_true_eq] at hc
        omega
      rw [if_neg hl, List.append_nil] at hsn
      rw [← hsn]
      try (first | refine gl tb ?_ | refine gg tb ?_ | refine ll tb ?_ | refine lg tb ?_); repeat ((first | refine G.condT rfl ?_ | refine G.condF rfl ?_ | refine sFa tb ?_ | refine sLd tb ?_ | refine sLa tb ?_ | refine sLen tb ?_ | refine sFd tb ?_ | refine sBd tb ?_ | refine sBa tb ?_); try (first | refine gl tb ?_ | refine gg tb ?_ | refine ll tb ?_ | refine lg tb ?_))
      refine sAd tb (r := ((i + 1 : Nat) : Int)) ?_
      try (first | refine gl tb ?_ | refine gg tb ?_ | refine ll tb ?_ | refine lg tb ?_); repeat ((first | refine G.condT rfl ?_ | refine G.condF rfl ?_ | refine sFa tb ?_ | refine sLd tb ?_ | refine sLa tb ?_ | refine sLen tb ?_ | refine sFd tb ?_ | refine sBd tb ?_ | refine sBa tb ?_); try (first | refine gl tb ?_ | refine gg tb ?_ | refine ll tb ?_ | refine lg tb ?_))
      exact G.lp (x := i) (i + 1) (by repeat (first | exact Sub.nil _ | refine Sub.cons rfl ?_)) ⟨hx, by omega, by omega⟩ (by omega)
    · have hl : isLow c = true := by
        unfold isLow
        simp only [Bool.or_eq_false_iff, decide_eq_false_iff_not] at hc
        rw [Bool.and_eq_true, decide_eq_true_eq, decide_eq_true_eq]
        omega
      rw [if_pos hl] at hsn
      try (first | refine gl tb ?_ | refine gg tb ?_ | refine ll tb ?_ | refine lg tb ?_); repeat ((first | refine G.condT rfl ?_ | refine G.condF rfl ?_ | refine sFa tb ?_ | refine sLd tb ?_ | refine sLa tb ?_ | refine sLen tb ?_ | refine sFd tb ?_ | refine sBd tb ?_ | refine sBa tb ?_); try (first | refine gl tb ?_ | refine gg tb ?_ | refine ll tb ?_ | refine lg tb ?_))
      refine sRs tb ?_
      rw [encL_low hl]
      refine sCat tb ?_ (hk := fun _ => by simp only [List.length_cons, List.length_nil]; omega)
      rw [← hsn]
      try (first | refine gl tb ?_ | refine gg tb ?_ | refine ll tb ?_ | refine lg tb ?_); repeat ((first | refine G.condT rfl ?_ | refine G.condF rfl ?_ | refine sFa tb ?_ | refine sLd tb ?_ | refine sLa tb ?_ | refine sLen tb ?_ | refine sFd tb ?_ | refine sBd tb ?_ | refine sBa tb ?_); try (first | refine gl tb ?_ | refine gg tb ?_ | refine ll tb ?_ | refine lg tb ?_))
      refine sAd tb (r := ((i + 1 : Nat) : Int)) ?_
      try (first | refine gl tb ?_ | refine gg tb ?_ | refine ll tb ?_ | refine lg tb ?_); repeat ((first | refine G.condT rfl ?_ | refine G.condF rfl ?_ | refine sFa tb ?_ | refine sLd tb ?_ | refine sLa tb ?_ | refine sLen tb ?_ | refine sFd tb ?_ | refine sBd tb ?_ | refine sBa tb ?_); try (first | refine gl tb ?_ | refine gg tb ?_ | refine ll tb ?_ | refine lg tb ?_))
      exact G.lp (x := i) (i + 1) (by repeat (first | exact Sub.nil _ | refine Sub.cons rfl ?_)) ⟨hx, by omega, by omega⟩ (by omega)
  clear hc hi1
  have hsl0 : (filt (cs.take i)).length ≤ 12 := by omega
  have hsl1 : ∀ b ∈ filt (cs.take i), Rx.letter b := fun b hb => filt_letter hb
  generalize filt (cs.take i) = s1 at hsl0 hsl1
  obtain ⟨s, hs⟩ : ∃ s, s = if s1 = [] then [113] else s1 := ⟨_, rfl⟩
  have hlet : ∀ b ∈ s, Rx.letter b := by
    intro b hb
    rw [hs] at hb
    split at hb
    · simp only [List.mem_cons, List.not_mem_nil, or_false] at hb
      subst hb; exact ⟨by decide, by decide⟩
    · exact hsl1 b hb
  have hne : s ≠ [] := by
    rw [hs]
    split
    · simp
    · assumption
  have hsl : s.length ≤ 12 := by
    rw [hs]
    split
    · simp
    · exact hsl0
  have hxW := hxd.trans hx
  clear hfl hi2 hcW hcv hbd hx hxd
  try (first | refine gl tb ?_ | refine gg tb ?_ | refine ll tb ?_ | refine lg tb ?_); repeat ((first | refine G.condT rfl ?_ | refine G.condF rfl ?_ | refine sFa tb ?_ | refine sLd tb ?_ | refine sLa tb ?_ | refine sLen tb ?_ | refine sFd tb ?_ | refine sBd tb ?_ | refine sBa tb ?_); try (first | refine gl tb ?_ | refine gg tb ?_ | refine ll tb ?_ | refine lg tb ?_))
  refine G.join (fun _ : Unit => [(4, none, .int .i32 lo), (5, none, .int .i32 hi), (6, none, lv), (7, none, S s)]) (fun _ W2 => W2 = W) ?_ ?_
  rotate_left
  · first | refine G.condD rfl (fun hc => ?_) (fun hc => ?_) | refine G.condN rfl (fun hc => ?_) (fun hc => ?_) | refine G.cond rfl (fun hc => ?_) (fun hc => ?_)
    · have he : s1 = [] := by simpa using hc
      rw [if_pos he] at hs
      subst hs
      try (first | refine gl tb ?_ | refine gg tb ?_ | refine ll tb ?_ | refine lg tb ?_); repeat ((first | refine G.condT rfl ?_ | refine G.condF rfl ?_ | refine sFa tb ?_ | refine sLd tb ?_ | refine sLa tb ?_ | refine sLen tb ?_ | refine sFd tb ?_ | refine sBd tb ?_ | refine sBa tb ?_); try (first | refine gl tb ?_ | refine gg tb ?_ | refine ll tb ?_ | refine lg tb ?_))
      exact G.met () (by repeat (first | exact Sub.nil _ | refine Sub.cons rfl ?_)) rfl
    · have he : ¬ s1 = [] := by simpa using hc
      rw [if_neg he] at hs
      subst hs
      try (first | refine gl tb ?_ | refine gg tb ?_ | refine ll tb ?_ | refine lg tb ?_); repeat ((first | refine G.condT rfl ?_ | refine G.condF rfl ?_ | refine sFa tb ?_ | refine sLd tb ?_ | refine sLa tb ?_ | refine sLen tb ?_ | refine sFd tb ?_ | refine sBd tb ?_ | refine sBa tb ?_); try (first | refine gl tb ?_ | refine gg tb ?_ | refine ll tb ?_ | refine lg tb ?_))
      exact G.met () (by repeat (first | exact Sub.nil _ | refine Sub.cons rfl ?_)) rfl
  rintro _ W3 hW3
  subst hW3
  obtain ⟨r, hr⟩ : ∃ r : Option (UInt8 × UInt8), r = if (decide (97 ≤ lo) && decide (hi ≤ 122) && decide (lo ≤ hi)) = true then some (UInt8.ofNat lo.toNat, UInt8.ofNat hi.toNat) else none := ⟨_, rfl⟩
  have hrl : ∀ l h, r = some (l, h) → (isLow lo = true ∧ isLow hi = true) ∧ l = UInt8.ofNat lo.toNat ∧ h = UInt8.ofNat hi.toNat ∧ lo ≤ hi := by
    intro l h e
    rw [hr] at e
    split at e
    · rename_i hc
      simp only [Bool.and_eq_true, decide_eq_true_eq] at hc
      simp only [Option.some.injEq, Prod.mk.injEq] at e
      refine ⟨⟨?_, ?_⟩, e.1.symm, e.2.symm, hc.2⟩ <;> unfold isLow <;> simp <;> omega
    · cases e
  have hrok : Rx.RngOk r := ⟨fun l h e => by
    obtain ⟨⟨h1, h2⟩, rfl, rfl, h3⟩ := hrl l h e
    have k1 := low_letter h1
    have k2 := low_letter h2
    exact ⟨k1.1, k2.1, by omega⟩⟩
  have hrlen : (Rx.rng r).length ≤ 3 := by rcases r with _ | ⟨a, b⟩ <;> simp [Rx.rng]
  have hcf := Rx.comp_class hrok hlet hne hsl false
  have hct := Rx.comp_class hrok hlet hne hsl true
  have hlaw := Rx.law_class hrok hlet hne
  try (first | refine gl tb ?_ | refine gg tb ?_ | refine ll tb ?_ | refine lg tb ?_); repeat ((first | refine G.condT rfl ?_ | refine G.condF rfl ?_ | refine sFa tb ?_ | refine sLd tb ?_ | refine sLa tb ?_ | refine sLen tb ?_ | refine sFd tb ?_ | refine sBd tb ?_ | refine sBa tb ?_); try (first | refine gl tb ?_ | refine gg tb ?_ | refine ll tb ?_ | refine lg tb ?_))
  refine sCat tb ?_ (hk := fun _ => by simp only [List.length_cons, List.length_nil]; omega)
  try (first | refine gl tb ?_ | refine gg tb ?_ | refine ll tb ?_ | refine lg tb ?_); repeat ((first | refine G.condT rfl ?_ | refine G.condF rfl ?_ | refine sFa tb ?_ | refine sLd tb ?_ | refine sLa tb ?_ | refine sLen tb ?_ | refine sFd tb ?_ | refine sBd tb ?_ | refine sBa tb ?_); try (first | refine gl tb ?_ | refine gg tb ?_ | refine ll tb ?_ | refine lg tb ?_))
  refine sCat tb ?_ (hk := fun _ => by simp only [List.length_append, List.length_cons, List.length_nil]; omega)
  try (first | refine gl tb ?_ | refine gg tb ?_ | refine ll tb ?_ | refine lg tb ?_); repeat ((first | refine G.condT rfl ?_ | refine G.condF rfl ?_ | refine sFa tb ?_ | refine sLd tb ?_ | refine sLa tb ?_ | refine sLen tb ?_ | refine sFd tb ?_ | refine sBd tb ?_ | refine sBa tb ?_); try (first | refine gl tb ?_ | refine gg tb ?_ | refine ll tb ?_ | refine lg tb ?_))
  refine G.join (fun _ : Unit => [(4, none, .int .i32 lo), (5, none, .int .i32 hi), (6, none, lv), (7, none, S s), (10, none, S (Rx.classTxt false s r)), (11, none, S (Rx.rng r))]) (fun _ W2 => W2 = W3) ?_ ?_
  rotate_left
  · first | refine G.condD rfl (fun hc => ?_) (fun hc => ?_) | refine G.condN rfl (fun hc => ?_) (fun hc => ?_) | refine G.cond rfl (fun hc => ?_) (fun hc => ?_)
    · have hc : (decide (97 ≤ lo) && decide (hi ≤ 122) && decide (lo ≤ hi)) = true := hc
      rw [if_pos hc] at hr
      have hrr := hrl _ _ hr
      subst hr
      try (first | refine gl tb ?_ | refine gg tb ?_ | refine ll tb ?_ | refine lg tb ?_); repeat ((first | refine G.condT rfl ?_ | refine G.condF rfl ?_ | refine sFa tb ?_ | refine sLd tb ?_ | refine sLa tb ?_ | refine sLen tb ?_ | refine sFd tb ?_ | refine sBd tb ?_ | refine sBa tb ?_); try (first | refine gl tb ?_ | refine gg tb ?_ | refine ll tb ?_ | refine lg tb ?_))
      refine sRs tb ?_
      rw [encL_low hrr.1.1]
      try (first | refine gl tb ?_ | refine gg tb ?_ | refine ll tb ?_ | refine lg tb ?_); repeat ((first | refine G.condT rfl ?_ | refine G.condF rfl ?_ | refine sFa tb ?_ | refine sLd tb ?_ | refine sLa tb ?_ | refine sLen tb ?_ | refine sFd tb ?_ | refine sBd tb ?_ | refine sBa tb ?_); try (first | refine gl tb ?_ | refine gg tb ?_ | refine ll tb ?_ | refine lg tb ?_))
      refine sCat tb ?_ (hk := fun _ => by simp only [List.length_cons, List.length_nil]; omega)
      try (first | refine gl tb ?_ | refine gg tb ?_ | refine ll tb ?_ | refine lg tb ?_); repeat ((first | refine G.condT rfl ?_ | refine G.condF rfl ?_ | refine sFa tb ?_ | refine sLd tb ?_ | refine sLa tb ?_ | refine sLen tb ?_ | refine sFd tb ?_ | refine sBd tb ?_ | refine sBa tb ?_); try (first | refine gl tb ?_ | refine gg tb ?_ | refine ll tb ?_ | refine lg tb ?_))
      refine sRs tb ?_
      rw [encL_low hrr.1.2]
      try (first | refine gl tb ?_ | refine gg tb ?_ | refine ll tb ?_ | refine lg tb ?_); repeat ((first | refine G.condT rfl ?_ | refine G.condF rfl ?_ | refine sFa tb ?_ | refine sLd tb ?_ | refine sLa tb ?_ | refine sLen tb ?_ | refine sFd tb ?_ | refine sBd tb ?_ | refine sBa tb ?_); try (first | refine gl tb ?_ | refine gg tb ?_ | refine ll tb ?_ | refine lg tb ?_))
      refine sCat tb ?_ (hk := fun _ => by simp only [List.length_append, List.length_cons, List.length_nil]; omega)
      rw [show ([UInt8.ofNat lo.toNat] ++ [45] ++ [UInt8.ofNat hi.toNat] : List UInt8) = Rx.rng (some (UInt8.ofNat lo.toNat, UInt8.ofNat hi.toNat)) from rfl]
      try (first | refine gl tb ?_ | refine gg tb ?_ | refine ll tb ?_ | refine lg tb ?_); repeat ((first | refine G.condT rfl ?_ | refine G.condF rfl ?_ | refine sFa tb ?_ | refine sLd tb ?_ | refine sLa tb ?_ | refine sLen tb ?_ | refine sFd tb ?_ | refine sBd tb ?_ | refine sBa tb ?_); try (first | refine gl tb ?_ | refine gg tb ?_ | refine ll tb ?_ | refine lg tb ?_))
      refine sCat tb ?_ (hk := fun _ => by simp only [List.length_cons, List.length_nil]; omega)
      try (first | refine gl tb ?_ | refine gg tb ?_ | refine ll tb ?_ | refine lg tb ?_); repeat ((first | refine G.condT rfl ?_ | refine G.condF rfl ?_ | refine sFa tb ?_ | refine sLd tb ?_ | refine sLa tb ?_ | refine sLen tb ?_ | refine sFd tb ?_ | refine sBd tb ?_ | refine sBa tb ?_); try (first | refine gl tb ?_ | refine gg tb ?_ | refine ll tb ?_ | refine lg tb ?_))
      refine sCat tb ?_ (hk := fun _ => by simp only [List.length_append, List.length_cons, List.length_nil]; omega)
      try (first | refine gl tb ?_ | refine gg tb ?_ | refine ll tb ?_ | refine lg tb ?_); repeat ((first | refine G.condT rfl ?_ | refine G.condF rfl ?_ | refine sFa tb ?_ | refine sLd tb ?_ | refine sLa tb ?_ | refine sLen tb ?_ | refine sFd tb ?_ | refine sBd tb ?_ | refine sBa tb ?_); try (first | refine gl tb ?_ | refine gg tb ?_ | refine ll tb ?_ | refine lg tb ?_))
      refine sCat tb ?_ (hk := fun _ => by simp only [List.length_append, List.length_cons, List.length_nil]; omega)
      rw [show ([91] ++ s ++ Rx.rng (some (UInt8.ofNat lo.toNat, UInt8.ofNat hi.toNat)) ++ [93] : List UInt8) = Rx.classTxt false s (some (UInt8.ofNat lo.toNat, UInt8.ofNat hi.toNat)) by simp [Rx.classTxt]]
      try (first | refine gl tb ?_ | refine gg tb ?_ | refine ll tb ?_ | refine lg tb ?_); repeat ((first | refine G.condT rfl ?_ | refine G.condF rfl ?_ | refine sFa tb ?_ | refine sLd tb ?_ | refine sLa tb ?_ | refine sLen tb ?_ | refine sFd tb ?_ | refine sBd tb ?_ | refine sBa tb ?_); try (first | refine gl tb ?_ | refine gg tb ?_ | refine ll tb ?_ | refine lg tb ?_))
      exact G.met () (by repeat (first | exact Sub.nil _ | refine Sub.cons rfl ?_)) rfl
    · have hc : ¬ (decide (97 ≤ lo) && decide (hi ≤ 122) && decide (lo ≤ hi)) = true := by
        have hc : (decide (97 ≤ lo) && decide (hi ≤ 122) && decide (lo ≤ hi)) = false := hc
        rw [hc]; exact Bool.false_ne_true
      rw [if_neg hc] at hr
      subst hr
      rw [show ([91] ++ s ++ [93] : List UInt8) = Rx.classTxt false s none by simp [Rx.classTxt, Rx.rng]]
      try (first | refine gl tb ?_ | refine gg tb ?_ | refine ll tb ?_ | refine lg tb ?_); repeat ((first | refine G.condT rfl ?_ | refine G.condF rfl ?_ | refine sFa tb ?_ | refine sLd tb ?_ | refine sLa tb ?_ | refine sLen tb ?_ | refine sFd tb ?_ | refine sBd tb ?_ | refine sBa tb ?_); try (first | refine gl tb ?_ | refine gg tb ?_ | refine ll tb ?_ | refine lg tb ?_))
      exact G.met () (by repeat (first | exact Sub.nil _ | refine Sub.cons rfl ?_)) rfl
  rintro _ W4 hW4
  subst hW4
  have hT4 := hT.to hxW
  have hlen : (Rx.classTxt false s r).length ≤ 20 := by unfold Rx.classTxt; simp; omega
  try (first | refine gl tb ?_ | refine gg tb ?_ | refine ll tb ?_ | refine lg tb ?_); repeat ((first | refine G.condT rfl ?_ | refine G.condF rfl ?_ | refine sFa tb ?_ | refine sLd tb ?_ | refine sLa tb ?_ | refine sLen tb ?_ | refine sFd tb ?_ | refine sBd tb ?_ | refine sBa tb ?_); try (first | refine gl tb ?_ | refine gg tb ?_ | refine ll tb ?_ | refine lg tb ?_))
  refine sCall c11 (compU_ok W4 (Rx.classTxt false s r) hT4 (by omega)) ?_
  rintro _ W5 ⟨hx5, p1, n1, e1, rfl, hr1⟩
  obtain ⟨rfl, t, g, pb, rfl, hct1, hE1⟩ | ⟨_, _, e', f, h, _⟩ := hr1
  rotate_left
  · rw [hcf] at h; cases h
  rw [hcf] at hct1
  simp only [Except.ok.injEq, Prod.mk.injEq] at hct1
  obtain ⟨rfl, rfl⟩ := hct1
  try (first | refine gl tb ?_ | refine gg tb ?_ | refine ll tb ?_ | refine lg tb ?_); repeat ((first | refine G.condT rfl ?_ | refine G.condF rfl ?_ | refine sFa tb ?_ | refine sLd tb ?_ | refine sLa tb ?_ | refine sLen tb ?_ | refine sFd tb ?_ | refine sBd tb ?_ | refine sBa tb ?_); try (first | refine gl tb ?_ | refine gg tb ?_ | refine ll tb ?_ | refine lg tb ?_))
  refine GL.cons (Step.sliceSl tb 1 rfl (Op1.of rfl (by first | exact fun _ => rfl | exact fun h => h | exact fun h => bL h | exact fun h => bL (bL h) | exact fun h => bL (bL (bL h)))) (Op1.of rfl (by first | exact fun _ => rfl | exact fun h => h | exact fun h => bL h | exact fun h => bL (bL h) | exact fun h => bL (bL (bL h)))) rfl (fun _ => ⟨rfl, by simp [Rx.classTxt]⟩) rfl ?_)
  try (first | refine gl tb ?_ | refine gg tb ?_ | refine ll tb ?_ | refine lg tb ?_); repeat ((first | refine G.condT rfl ?_ | refine G.condF rfl ?_ | refine sFa tb ?_ | refine sLd tb ?_ | refine sLa tb ?_ | refine sLen tb ?_ | refine sFd tb ?_ | refine sBd tb ?_ | refine sBa tb ?_); try (first | refine gl tb ?_ | refine gg tb ?_ | refine ll tb ?_ | refine lg tb ?_))
  have hdr : ((Rx.classTxt false s r).drop 1).length ≤ 20 := by rw [List.length_drop]; omega
  refine sCat tb ?_ (hk := fun _ => by simp only [List.length_cons, List.length_nil]; omega)
  rw [show ([91, 94] ++ (Rx.classTxt false s r).drop 1 : List UInt8) = Rx.classTxt true s r by simp [Rx.classTxt]]
  have hlen2 : (Rx.classTxt true s r).length ≤ 20 := by unfold Rx.classTxt; simp; omega
  try (first | refine gl tb ?_ | refine gg tb ?_ | refine ll tb ?_ | refine lg tb ?_); repeat ((first | refine G.condT rfl ?_ | refine G.condF rfl ?_ | refine sFa tb ?_ | refine sLd tb ?_ | refine sLa tb ?_ | refine sLen tb ?_ | refine sFd tb ?_ | refine sBd tb ?_ | refine sBa tb ?_); try (first | refine gl tb ?_ | refine gg tb ?_ | refine ll tb ?_ | refine lg tb ?_))
  refine sCall c11 (compU_ok W5 (Rx.classTxt true s r) (hT4.to hx5) (by omega)) ?_
  rintro _ W6 ⟨hx6, p2, n2, e2, rfl, hr2⟩
  obtain ⟨rfl, t, g, qb, rfl, hct2, hE2⟩ | ⟨_, _, e', f, h, _⟩ := hr2
  rotate_left
  · rw [hct] at h; cases h
  rw [hct] at hct2
  simp only [Except.ok.injEq, Prod.mk.injEq] at hct2
  obtain ⟨rfl, rfl⟩ := hct2
  have hE1 := hE1.to hx6
  have hx06 := (hxW.trans hx5).trans hx6
  have hT6 := hT.to hx06
  try (first | refine gl tb ?_ | refine gg tb ?_ | refine ll tb ?_ | refine lg tb ?_); repeat ((first | refine G.condT rfl ?_ | refine G.condF rfl ?_ | refine sFa tb ?_ | refine sLd tb ?_ | refine sLa tb ?_ | refine sLen tb ?_ | refine sFd tb ?_ | refine sBd tb ?_ | refine sBa tb ?_); try (first | refine gl tb ?_ | refine gg tb ?_ | refine ll tb ?_ | refine lg tb ?_))
  refine sPn tb ?_
  try (first | refine gl tb ?_ | refine gg tb ?_ | refine ll tb ?_ | refine lg tb ?_); repeat ((first | refine G.condT rfl ?_ | refine G.condF rfl ?_ | refine sFa tb ?_ | refine sLd tb ?_ | refine sLa tb ?_ | refine sLen tb ?_ | refine sFd tb ?_ | refine sBd tb ?_ | refine sBa tb ?_); try (first | refine gl tb ?_ | refine gg tb ?_ | refine ll tb ?_ | refine lg tb ?_))
  refine sPn tb ?_
  try (first | refine gl tb ?_ | refine gg tb ?_ | refine ll tb ?_ | refine lg tb ?_); repeat ((first | refine G.condT rfl ?_ | refine G.condF rfl ?_ | refine sFa tb ?_ | refine sLd tb ?_ | refine sLa tb ?_ | refine sLen tb ?_ | refine sFd tb ?_ | refine sBd tb ?_ | refine sBa tb ?_); try (first | refine gl tb ?_ | refine gg tb ?_ | refine ll tb ?_ | refine lg tb ?_))
  clear hcf hct hlen hlen2 hdr
  refine sCall c14 (cut_ok lv ss W6 (hv.to hx06) hz) ?_
  rintro u W7 ⟨hx7, ho7⟩
  have hT7 := hT6.to hx7
  have hE1 := hE1.to hx7
  have hE2 := hE2.to hx7
  have hx07 := hx06.trans hx7
  have hu7 := ho7.sli
  have hsx : ∀ x ∈ cutL ss, x.length ≤ 60 := fun x hx => cutL_len hx
  have hsn : (cutL ss).length ≤ 12 := by unfold cutL; rw [List.length_map, List.length_take]; omega
  generalize cutL ss = xs at hu7 hsx hsn
  have hll : (xs.map strC).length = xs.length := by simp
  clear hv hz ho7
  try (first | refine gl tb ?_ | refine gg tb ?_ | refine ll tb ?_ | refine lg tb ?_); repeat ((first | refine G.condT rfl ?_ | refine G.condF rfl ?_ | refine sFa tb ?_ | refine sLd tb ?_ | refine sLa tb ?_ | refine sLen tb ?_ | refine sFd tb ?_ | refine sBd tb ?_ | refine sBa tb ?_); try (first | refine gl tb ?_ | refine gg tb ?_ | refine ll tb ?_ | refine lg tb ?_))
  refine (G.loop (fun i : Nat => [(4, none, .int .i32 lo), (5, none, .int .i32 hi), (6, none, u), (7, none, S s), (11, none, S (Rx.rng r)), (12, none, ptr pb), (15, none, ptr qb), (18, none, .int .i64 i)]) (fun i W => Ext W7 W ∧ i ≤ xs.length) (fun i => xs.length - i) 0 (by repeat (first | exact Sub.nil _ | refine Sub.cons rfl ?_)) ⟨Ext.refl _, Nat.zero_le _⟩ ?_)
  rintro i W ⟨hx, hi9⟩
  have hu := hu7.to hx
  try (first | refine gl tb ?_ | refine gg tb ?_ | refine ll tb ?_ | refine lg tb ?_); repeat ((first | refine G.condT rfl ?_ | refine G.condF rfl ?_ | refine sFa tb ?_ | refine sLd tb ?_ | refine sLa tb ?_ | refine sLen tb ?_ | refine sFd tb ?_ | refine sBd tb ?_ | refine sBa tb ?_); try (first | refine gl tb ?_ | refine gg tb ?_ | refine ll tb ?_ | refine lg tb ?_))
  rw [hll]
  try (first | refine gl tb ?_ | refine gg tb ?_ | refine ll tb ?_ | refine lg tb ?_); repeat ((first | refine G.condT rfl ?_ | refine G.condF rfl ?_ | refine sFa tb ?_ | refine sLd tb ?_ | refine sLa tb ?_ | refine sLen tb ?_ | refine sFd tb ?_ | refine sBd tb ?_ | refine sBa tb ?_); try (first | refine gl tb ?_ | refine gg tb ?_ | refine ll tb ?_ | refine lg tb ?_))
  first | refine G.condD rfl (fun hc => ?_) (fun hc => ?_) | refine G.condN rfl (fun hc => ?_) (fun hc => ?_) | refine G.cond rfl (fun hc => ?_) (fun hc => ?_)
  rotate_left
  · try (first | refine gl tb ?_ | refine gg tb ?_ | refine ll tb ?_ | refine lg tb ?_); repeat ((first | refine G.condT rfl ?_ | refine G.condF rfl ?_ | refine sFa tb ?_ | refine sLd tb ?_ | refine sLa tb ?_ | refine sLen tb ?_ | refine sFd tb ?_ | refine sBd tb ?_ | refine sBa tb ?_); try (first | refine gl tb ?_ | refine gg tb ?_ | refine ll tb ?_ | refine lg tb ?_))
    refine sCall c13 (wakes_ok W (hT7.to hx)) ?_
    rintro _ W8 ⟨rfl, hx8⟩
    try (first | refine gl tb ?_ | refine gg tb ?_ | refine ll tb ?_ | refine lg tb ?_); repeat ((first | refine G.condT rfl ?_ | refine G.condF rfl ?_ | refine sFa tb ?_ | refine sLd tb ?_ | refine sLa tb ?_ | refine sLen tb ?_ | refine sFd tb ?_ | refine sBd tb ?_ | refine sBa tb ?_); try (first | refine gl tb ?_ | refine gg tb ?_ | refine ll tb ?_ | refine lg tb ?_))
    refine G.ret1 rfl rfl rfl rfl ?_
    exact ⟨rfl, (hx07.trans hx).trans hx8⟩
  have hlt : i < xs.length := by omega
  have hget : (xs.map strC)[i]? = some [S xs[i]] := by rw [List.getElem?_map, List.getElem?_eq_getElem hlt]; rfl
  have hxl := hsx xs[i] (List.getElem_mem hlt)
  generalize xs[i] = x at hget hxl
  try (first | refine gl tb ?_ | refine gg tb ?_ | refine ll tb ?_ | refine lg tb ?_); repeat ((first | refine G.condT rfl ?_ | refine G.condF rfl ?_ | refine sFa tb ?_ | refine sLd tb ?_ | refine sLa tb ?_ | refine sLen tb ?_ | refine sFd tb ?_ | refine sBd tb ?_ | refine sBa tb ?_); try (first | refine gl tb ?_ | refine gg tb ?_ | refine ll tb ?_ | refine lg tb ?_))
  refine sIa tb i ?_ (hj := fun _ => ⟨rfl, by rw [hll]; exact hlt⟩)
  try (first | refine gl tb ?_ | refine gg tb ?_ | refine ll tb ?_ | refine lg tb ?_); repeat ((first | refine G.condT rfl ?_ | refine G.condF rfl ?_ | refine sFa tb ?_ | refine sLd tb ?_ | refine sLa tb ?_ | refine sLen tb ?_ | refine sFd tb ?_ | refine sBd tb ?_ | refine sBa tb ?_); try (first | refine gl tb ?_ | refine gg tb ?_ | refine ll tb ?_ | refine lg tb ?_))
  have hpos : ∀ {c : Bool}, (decide ((0 : Int) < x.length) && c) = true → 0 < x.length := fun {c} h => by
    rw [Bool.and_eq_true, decide_eq_true_eq] at h
    omega
  refine GL.cons (Step.callX rfl rfl (by repeat (first | exact OpL.nil | refine OpL.cons (Op1.of rfl (by first | exact fun _ => rfl | exact fun h => h | exact fun h => bL h | exact fun h => bL (bL h) | exact fun h => bL (bL (bL h)))) ?_)) c23 rfl (fun hc => utf8x_ok x 0 W (by omega) (by have := of_decide_eq_true hc; omega)) ?_)
  intro W8 hx8
  try (first | refine gl tb ?_ | refine gg tb ?_ | refine ll tb ?_ | refine lg tb ?_); repeat ((first | refine G.condT rfl ?_ | refine G.condF rfl ?_ | refine sFa tb ?_ | refine sLd tb ?_ | refine sLa tb ?_ | refine sLen tb ?_ | refine sFd tb ?_ | refine sBd tb ?_ | refine sBa tb ?_); try (first | refine gl tb ?_ | refine gg tb ?_ | refine ll tb ?_ | refine lg tb ?_))
  refine GL.cons (Step.callX rfl rfl (by repeat (first | exact OpL.nil | refine OpL.cons (Op1.of rfl (by first | exact fun _ => rfl | exact fun h => h | exact fun h => bL h | exact fun h => bL (bL h) | exact fun h => bL (bL (bL h)))) ?_)) c23 rfl (fun hc => utf8x_ok x 0 W8 (by omega) (hpos hc)) ?_)
  intro W9 hx9
  have hx79 := (hx.trans hx8).trans hx9
  try (first | refine gl tb ?_ | refine gg tb ?_ | refine ll tb ?_ | refine lg tb ?_); repeat ((first | refine G.condT rfl ?_ | refine G.condF rfl ?_ | refine sFa tb ?_ | refine sLd tb ?_ | refine sLa tb ?_ | refine sLen tb ?_ | refine sFd tb ?_ | refine sBd tb ?_ | refine sBa tb ?_); try (first | refine gl tb ?_ | refine gg tb ?_ | refine ll tb ?_ | refine lg tb ?_))
  rw [one_eq x]
  try (first | refine gl tb ?_ | refine gg tb ?_ | refine ll tb ?_ | refine lg tb ?_); repeat ((first | refine G.condT rfl ?_ | refine G.condF rfl ?_ | refine sFa tb ?_ | refine sLd tb ?_ | refine sLa tb ?_ | refine sLen tb ?_ | refine sFd tb ?_ | refine sBd tb ?_ | refine sBa tb ?_); try (first | refine gl tb ?_ | refine gg tb ?_ | refine ll tb ?_ | refine lg tb ?_))
  refine (G.loop (fun k : Nat => [(4, none, .int .i32 lo), (5, none, .int .i32 hi), (6, none, u), (7, none, S s), (11, none, S (Rx.rng r)), (12, none, ptr pb), (15, none, ptr qb), (18, none, .int .i64 i), (19, none, S x), (20, none, .bool (Rx.one1' x)), (21, none, .bool ((s.take k).any fun b => x = [b])), (22, none, .int .i64 k)]) (fun k W => Ext W7 W ∧ k ≤ s.length) (fun k => s.length - k) 0 (by repeat (first | exact Sub.nil _ | refine Sub.cons rfl ?_)) ⟨hx79, Nat.zero_le _⟩ ?_)
  rintro k W ⟨hx, hk⟩
  try (first | refine gl tb ?_ | refine gg tb ?_ | refine ll tb ?_ | refine lg tb ?_); repeat ((first | refine G.condT rfl ?_ | refine G.condF rfl ?_ | refine sFa tb ?_ | refine sLd tb ?_ | refine sLa tb ?_ | refine sLen tb ?_ | refine sFd tb ?_ | refine sBd tb ?_ | refine sBa tb ?_); try (first | refine gl tb ?_ | refine gg tb ?_ | refine ll tb ?_ | refine lg tb ?_))
  first | refine G.condD rfl (fun hc => ?_) (fun hc => ?_) | refine G.condN rfl (fun hc => ?_) (fun hc => ?_) | refine G.cond rfl (fun hc => ?_) (fun hc => ?_)
  · have hlt : k < s.length := by omega
    have hsub : (s.drop k).take (k + 1 - k) = [s.getD k 0] := by
      rw [show k + 1 - k = 1 by omega, List.drop_eq_getElem_cons hlt, List.take_succ_cons, List.take_zero, List.getD_eq_getElem?_getD, List.getElem?_eq_getElem hlt]; rfl
    have hany : ((s.take (k + 1)).any fun b => x = [b]) = (((s.take k).any fun b => x = [b]) || decide (x = [s.getD k 0])) := by
      rw [List.take_succ_eq_append_getElem hlt, List.any_append, List.getD_eq_getElem?_getD, List.getElem?_eq_getElem hlt]
      simp
    try (first | refine gl tb ?_ | refine gg tb ?_ | refine ll tb ?_ | refine lg tb ?_); repeat ((first | refine G.condT rfl ?_ | refine G.condF rfl ?_ | refine sFa tb ?_ | refine sLd tb ?_ | refine sLa tb ?_ | refine sLen tb ?_ | refine sFd tb ?_ | refine sBd tb ?_ | refine sBa tb ?_); try (first | refine gl tb ?_ | refine gg tb ?_ | refine ll tb ?_ | refine lg tb ?_))
    refine sAd tb (r := ((k + 1 : Nat) : Int)) ?_
    try (first | refine gl tb ?_ | refine gg tb ?_ | refine ll tb ?_ | refine lg tb ?_); repeat ((first | refine G.condT rfl ?_ | refine G.condF rfl ?_ | refine sFa tb ?_ | refine sLd tb ?_ | refine sLa tb ?_ | refine sLen tb ?_ | refine sFd tb ?_ | refine sBd tb ?_ | refine sBa tb ?_); try (first | refine gl tb ?_ | refine gg tb ?_ | refine ll tb ?_ | refine lg tb ?_))
    refine GL.cons (Step.sliceS tb k (k + 1) rfl (Op1.of rfl (by first | exact fun _ => rfl | exact fun h => h | exact fun h => bL h | exact fun h => bL (bL h) | exact fun h => bL (bL (bL h)))) (Op1.of rfl (by first | exact fun _ => rfl | exact fun h => h | exact fun h => bL h | exact fun h => bL (bL h) | exact fun h => bL (bL (bL h)))) (Op1.of rfl (by first | exact fun _ => rfl | exact fun h => h | exact fun h => bL h | exact fun h => bL (bL h) | exact fun h => bL (bL (bL h)))) rfl (fun _ => ⟨rfl, rfl, by omega, by omega⟩) rfl ?_)
    rw [hsub]
    try (first | refine gl tb ?_ | refine gg tb ?_ | refine ll tb ?_ | refine lg tb ?_); repeat ((first | refine G.condT rfl ?_ | refine G.condF rfl ?_ | refine sFa tb ?_ | refine sLd tb ?_ | refine sLa tb ?_ | refine sLen tb ?_ | refine sFd tb ?_ | refine sBd tb ?_ | refine sBa tb ?_); try (first | refine gl tb ?_ | refine gg tb ?_ | refine ll tb ?_ | refine lg tb ?_))
    rw [← hany]
    refine sAd tb (r := ((k + 1 : Nat) : Int)) ?_
    try (first | refine gl tb ?_ | refine gg tb ?_ | refine ll tb ?_ | refine lg tb ?_); repeat ((first | refine G.condT rfl ?_ | refine G.condF rfl ?_ | refine sFa tb ?_ | refine sLd tb ?_ | refine sLa tb ?_ | refine sLen tb ?_ | refine sFd tb ?_ | refine sBd tb ?_ | refine sBa tb ?_); try (first | refine gl tb ?_ | refine gg tb ?_ | refine ll tb ?_ | refine lg tb ?_))
    exact G.lp (x := k) (k + 1) (by repeat (first | exact Sub.nil _ | refine Sub.cons rfl ?_)) ⟨hx, by omega⟩ (by omega)
  · have hke : k = s.length := by omega
    subst hke
    rw [List.take_length]
    try (first | refine gl tb ?_ | refine gg tb ?_ | refine ll tb ?_ | refine lg tb ?_); repeat ((first | refine G.condT rfl ?_ | refine G.condF rfl ?_ | refine sFa tb ?_ | refine sLd tb ?_ | refine sLa tb ?_ | refine sLen tb ?_ | refine sFd tb ?_ | refine sBd tb ?_ | refine sBa tb ?_); try (first | refine gl tb ?_ | refine gg tb ?_ | refine ll tb ?_ | refine lg tb ?_))
    have hpos1 : ∀ {c : Bool}, (decide ((x.length : Int) = 1) && c) = true → 0 < x.length := fun {c} h => by
      rw [Bool.and_eq_true, decide_eq_true_eq] at h
      omega
    refine GL.cons (Step.indexS tb 0 rfl (Op1.of rfl (by first | exact fun _ => rfl | exact fun h => h | exact fun h => bL h | exact fun h => bL (bL h) | exact fun h => bL (bL (bL h)))) (Op1.of rfl (by first | exact fun _ => rfl | exact fun h => h | exact fun h => bL h | exact fun h => bL (bL h) | exact fun h => bL (bL (bL h)))) rfl (fun hc => ⟨rfl, hpos1 hc⟩) rfl ?_)
    try (first | refine gl tb ?_ | refine gg tb ?_ | refine ll tb ?_ | refine lg tb ?_); repeat ((first | refine G.condT rfl ?_ | refine G.condF rfl ?_ | refine sFa tb ?_ | refine sLd tb ?_ | refine sLa tb ?_ | refine sLen tb ?_ | refine sFd tb ?_ | refine sBd tb ?_ | refine sBa tb ?_); try (first | refine gl tb ?_ | refine gg tb ?_ | refine ll tb ?_ | refine lg tb ?_))
    refine sCv tb (r := lo % 256) ?_ (hr := Go.Vg.wrap_u8 lo)
    try (first | refine gl tb ?_ | refine gg tb ?_ | refine ll tb ?_ | refine lg tb ?_); repeat ((first | refine G.condT rfl ?_ | refine G.condF rfl ?_ | refine sFa tb ?_ | refine sLd tb ?_ | refine sLa tb ?_ | refine sLen tb ?_ | refine sFd tb ?_ | refine sBd tb ?_ | refine sBa tb ?_); try (first | refine gl tb ?_ | refine gg tb ?_ | refine ll tb ?_ | refine lg tb ?_))
    refine GL.cons (Step.indexS tb 0 rfl (Op1.of rfl (by first | exact fun _ => rfl | exact fun h => h | exact fun h => bL h | exact fun h => bL (bL h) | exact fun h => bL (bL (bL h)))) (Op1.of rfl (by first | exact fun _ => rfl | exact fun h => h | exact fun h => bL h | exact fun h => bL (bL h) | exact fun h => bL (bL (bL h)))) rfl (fun hc => ⟨rfl, hpos1 (bL hc)⟩) rfl ?_)
    try (first | refine gl tb ?_ | refine gg tb ?_ | refine ll tb ?_ | refine lg tb ?_); repeat ((first | refine G.condT rfl ?_ | refine G.condF rfl ?_ | refine sFa tb ?_ | refine sLd tb ?_ | refine sLa tb ?_ | refine sLen tb ?_ | refine sFd tb ?_ | refine sBd tb ?_ | refine sBa tb ?_); try (first | refine gl tb ?_ | refine gg tb ?_ | refine ll tb ?_ | refine lg tb ?_))
    refine sCv tb (r := hi % 256) ?_ (hr := Go.Vg.wrap_u8 hi)
    try (first | refine gl tb ?_ | refine gg tb ?_ | refine ll tb ?_ | refine lg tb ?_); repeat ((first | refine G.condT rfl ?_ | refine G.condF rfl ?_ | refine sFa tb ?_ | refine sLd tb ?_ | refine sLa tb ?_ | refine sLen tb ?_ | refine sFd tb ?_ | refine sBd tb ?_ | refine sBa tb ?_); try (first | refine gl tb ?_ | refine gg tb ?_ | refine ll tb ?_ | refine lg tb ?_))
    have hrr : (decide ((x.length : Int) = 1) && !decide (Rx.rng r = []) && decide (lo % 256 ≤ ((x.getD 0 0).toNat : Int)) && decide (((x.getD 0 0).toNat : Int) ≤ hi % 256)) =
        Rx.rngM r x := by
      rcases r with _ | ⟨l, h⟩
      · simp [Rx.rng, Rx.rngM]
      · obtain ⟨⟨h1, h2⟩, e1, e2, h3⟩ := hrl l h rfl
        have k1 := (low_letter h1).2
        have k2 := (low_letter h2).2
        have q1 := low_nat h1
        have q2 := low_nat h2
        rw [← e1] at k1
        rw [← e2] at k2
        rw [Bool.eq_iff_iff]
        simp only [Rx.rng, Rx.rngM, Bool.and_eq_true, decide_eq_true_eq, Bool.not_eq_true', decide_eq_false_iff_not]
        constructor
        · rintro ⟨⟨⟨g1, _⟩, g2⟩, g3⟩; exact ⟨⟨by omega, by omega⟩, by omega⟩
        · rintro ⟨⟨g1, g2⟩, g3⟩; exact ⟨⟨⟨by omega, by simp⟩, by omega⟩, by omega⟩
    rw [hrr]
    refine G.join (fun _ : Unit => [(4, none, .int .i32 lo), (5, none, .int .i32 hi), (6, none, u), (7, none, S s), (11, none, S (Rx.rng r)), (12, none, ptr pb), (15, none, ptr qb), (18, none, .int .i64 i), (19, none, S x), (20, none, .bool (Rx.one1' x)), (21, none, .bool (Rx.mem1 s r x))]) (fun _ W2 => W2 = W) ?_ ?_
    rotate_left
    · have hm := Rx.mem1_eq s r x
      generalize Rx.rngM r x = M at hm ⊢
      first | refine G.condD rfl (fun hc => ?_) (fun hc => ?_) | refine G.condN rfl (fun hc => ?_) (fun hc => ?_) | refine G.cond rfl (fun hc => ?_) (fun hc => ?_)
      · have hc : M = true := hc
        rw [hc, Bool.or_true] at hm
        rw [hm]
        try (first | refine gl tb ?_ | refine gg tb ?_ | refine ll tb ?_ | refine lg tb ?_); repeat ((first | refine G.condT rfl ?_ | refine G.condF rfl ?_ | refine sFa tb ?_ | refine sLd tb ?_ | refine sLa tb ?_ | refine sLen tb ?_ | refine sFd tb ?_ | refine sBd tb ?_ | refine sBa tb ?_); try (first | refine gl tb ?_ | refine gg tb ?_ | refine ll tb ?_ | refine lg tb ?_))
        exact G.met () (by repeat (first | exact Sub.nil _ | refine Sub.cons rfl ?_)) rfl
      · have hc : M = false := hc
        rw [hc, Bool.or_false] at hm
        rw [hm]
        try (first | refine gl tb ?_ | refine gg tb ?_ | refine ll tb ?_ | refine lg tb ?_); repeat ((first | refine G.condT rfl ?_ | refine G.condF rfl ?_ | refine sFa tb ?_ | refine sLd tb ?_ | refine sLa tb ?_ | refine sLen tb ?_ | refine sFd tb ?_ | refine sBd tb ?_ | refine sBa tb ?_); try (first | refine gl tb ?_ | refine gg tb ?_ | refine ll tb ?_ | refine lg tb ?_))
        exact G.met () (by repeat (first | exact Sub.nil _ | refine Sub.cons rfl ?_)) rfl
    rintro _ W10 hW10
    subst hW10
    try (first | refine gl tb ?_ | refine gg tb ?_ | refine ll tb ?_ | refine lg tb ?_); repeat ((first | refine G.condT rfl ?_ | refine G.condF rfl ?_ | refine sFa tb ?_ | refine sLd tb ?_ | refine sLa tb ?_ | refine sLen tb ?_ | refine sFd tb ?_ | refine sBd tb ?_ | refine sBa tb ?_); try (first | refine gl tb ?_ | refine gg tb ?_ | refine ll tb ?_ | refine lg tb ?_))
    refine sCall c18 (match_ok W10 pb (Rx.classT false s r) 0 x (hT7.to hx) (hE1.to hx) (by omega)) ?_
    rintro _ W11 ⟨rfl, hx11⟩
    have hx711 := hx.trans hx11
    try (first | refine gl tb ?_ | refine gg tb ?_ | refine ll tb ?_ | refine lg tb ?_); repeat ((first | refine G.condT rfl ?_ | refine G.condF rfl ?_ | refine sFa tb ?_ | refine sLd tb ?_ | refine sLa tb ?_ | refine sLen tb ?_ | refine sFd tb ?_ | refine sBd tb ?_ | refine sBa tb ?_); try (first | refine gl tb ?_ | refine gg tb ?_ | refine ll tb ?_ | refine lg tb ?_))
    refine GL.cons (Step.callX rfl rfl (by repeat (first | exact OpL.nil | refine OpL.cons (Op1.of rfl (by first | exact fun _ => rfl | exact fun h => h | exact fun h => bL h | exact fun h => bL (bL h) | exact fun h => bL (bL (bL h)))) ?_)) c18 rfl (fun hc => match_ok W11 qb (Rx.classT true s r) 0 x (hT7.to hx711) (hE2.to hx711) (by omega)) ?_)
    intro W12 hx12
    try (first | refine gl tb ?_ | refine gg tb ?_ | refine ll tb ?_ | refine lg tb ?_); repeat ((first | refine G.condT rfl ?_ | refine G.condF rfl ?_ | refine sFa tb ?_ | refine sLd tb ?_ | refine sLa tb ?_ | refine sLen tb ?_ | refine sFd tb ?_ | refine sBd tb ?_ | refine sBa tb ?_); try (first | refine gl tb ?_ | refine gg tb ?_ | refine ll tb ?_ | refine lg tb ?_))
    rw [(hlaw x).1, (hlaw x).2]
    first | refine G.condD rfl (fun hc => ?_) (fun hc => ?_) | refine G.condN rfl (fun hc => ?_) (fun hc => ?_) | refine G.cond rfl (fun hc => ?_) (fun hc => ?_)
    · exfalso
      cases Rx.mem1 s r x <;> cases Rx.one1' x <;> simp at hc
    clear hc
    try (first | refine gl tb ?_ | refine gg tb ?_ | refine ll tb ?_ | refine lg tb ?_); repeat ((first | refine G.condT rfl ?_ | refine G.condF rfl ?_ | refine sFa tb ?_ | refine sLd tb ?_ | refine sLa tb ?_ | refine sLen tb ?_ | refine sFd tb ?_ | refine sBd tb ?_ | refine sBa tb ?_); try (first | refine gl tb ?_ | refine gg tb ?_ | refine ll tb ?_ | refine lg tb ?_))
    refine sAd tb (r := ((i + 1 : Nat) : Int)) ?_
    try (first | refine gl tb ?_ | refine gg tb ?_ | refine ll tb ?_ | refine lg tb ?_); repeat ((first | refine G.condT rfl ?_ | refine G.condF rfl ?_ | refine sFa tb ?_ | refine sLd tb ?_ | refine sLa tb ?_ | refine sLen tb ?_ | refine sFd tb ?_ | refine sBd tb ?_ | refine sBa tb ?_); try (first | refine gl tb ?_ | refine gg tb ?_ | refine ll tb ?_ | refine lg tb ?_))
    exact G.lp (x := i) (i + 1) (by repeat (first | exact Sub.nil _ | refine Sub.cons rfl ?_)) ⟨hx711.trans hx12, by omega⟩ (by omega)
end Go.Proofs.YtbpkhgehchelhaaDoor
