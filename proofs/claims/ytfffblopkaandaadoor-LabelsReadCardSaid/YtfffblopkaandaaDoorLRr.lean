/- LabelsRead: the reference's reading, bytes lent; walked. -/
import Derived.Test.YtfffblopkaandaaDoorLBy
import Derived.Test.YtfffblopkaandaaDoorLEq
import Derived.Test.YtfffblopkaandaaDoorGL2
import Derived.Test.YtfffblopkaandaaDoorGV2
open Go Go.Vg Go.RowKit Go.Proofs Go.Proofs.YtfffblopkaandaaDoor
namespace Go.Proofs.YtfffblopkaandaaDoor
set_option linter.unusedSimpArgs false

/-- two texts read, one by one -/
def inner (l0 : List UInt8) (k : Nat) (l : List UInt8) (arr : List Value) : Prop :=
  (k = 0 ∧ l = l0 ∧ arr = [S [], S []]) ∨ (k = 1 ∧ ∃ s0, readT l0 = some (s0, l) ∧ s0.length ≤ 65535 ∧ arr = [S s0, S []]) ∨
  (k = 2 ∧ ∃ s0 l1 s1, readT l0 = some (s0, l1) ∧ readT l1 = some (s1, l) ∧ s0.length ≤ 65535 ∧ s1.length ≤ 65535 ∧ arr = [S s0, S s1])
theorem inner_fail {l0 l : List UInt8} {k m : Nat} {arr : List Value} (h : inner l0 k l arr) (hk : k < 2) (hr : readT l = none) : readN (m + 1) l0 = none := by
  rcases h with ⟨rfl, rfl, _⟩ | ⟨rfl, s0, h1, _, _⟩ | ⟨rfl, _⟩
  · simp only [readN, hr]
  · simp only [readN, h1, hr]
  · omega
theorem inner_step {l0 l l' s : List UInt8} {k : Nat} {arr : List Value} (h : inner l0 k l arr) (hk : k < 2) (hr : readT l = some (s, l')) : inner l0 (k + 1) l' (arr.set k (S s)) := by
  have hs := (readT_len hr).1
  rcases h with ⟨rfl, rfl, rfl⟩ | ⟨rfl, s0, h1, h2, rfl⟩ | ⟨rfl, _⟩
  · exact .inr (.inl ⟨rfl, s, hr, hs, rfl⟩)
  · exact .inr (.inr ⟨rfl, s0, l, s, h1, hr, h2, hs, rfl⟩)
  · omega
theorem inner_len {l0 l : List UInt8} {k : Nat} {arr : List Value} (h : inner l0 k l arr) : arr.length = 2 ∧ k ≤ 2 ∧ ∀ v ∈ arr, v.oneCell' = true := by
  rcases h with ⟨rfl, _, rfl⟩ | ⟨rfl, s0, _, _, rfl⟩ | ⟨rfl, s0, _, s1, _, _, _, _, rfl⟩ <;> refine ⟨rfl, by omega, by simp [S, Value.oneCell']⟩

theorem readT_drop {raw : List UInt8} {at_ : Nat} (h : at_ + 2 ≤ raw.length) : readT (raw.drop at_) = if (raw.getD at_ 0).toNat * 256 + (raw.getD (at_ + 1) 0).toNat ≤ raw.length - (at_ + 2) then
    some (((raw.drop (at_ + 2)).take ((raw.getD at_ 0).toNat * 256 + (raw.getD (at_ + 1) 0).toNat)), raw.drop (at_ + 2 + ((raw.getD at_ 0).toNat * 256 + (raw.getD (at_ + 1) 0).toNat))) else none := by
  have e : raw.drop at_ = raw.getD at_ 0 :: raw.getD (at_ + 1) 0 :: raw.drop (at_ + 2) := by
    rw [List.drop_eq_getElem_cons (by omega), List.drop_eq_getElem_cons (show at_ + 1 < raw.length by omega)]
    simp [List.getD, show at_ < raw.length by omega, show at_ + 1 < raw.length by omega]
  rw [e]
  simp only [readT, List.length_drop, List.drop_drop]
theorem readT_short {raw : List UInt8} {at_ : Nat} (h : raw.length < at_ + 2) : readT (raw.drop at_) = none := by
  have hl : (raw.drop at_).length < 2 := by rw [List.length_drop]; omega
  unfold readT
  split
  · rename_i a b r e
    rw [e] at hl; simp at hl; omega
  · rfl

def finR : Option (List Lab × List UInt8) → Option (List Lab)
  | none => none
  | some (ls, rest) => if (decide ((0 : Int) < rest.length) || !rightB ls) = true then none else some ls
theorem readL_fin (c : UInt8) (r : List UInt8) : readL (c :: r) = finR (readN c.toNat r) := rfl
theorem refRead_ok (v : Value) (raw : List UInt8) (w : World) (hv : By w v raw) (hbig : raw.length ≤ 100000) :
    Ret Tryd.prog 35 ⟨[v]⟩ w fun r w' => ∃ s, Ext w w' ∧ (match readL raw with
      | none => r = .tuple ⟨[s, .int .i64 8]⟩ ∧ LO w' w.heap.size s []
      | some ls => r = .tuple ⟨[s, .int .i64 0]⟩ ∧ LO w' w.heap.size s ls) := by
  have hbl := bysC_len raw
  refine ret_of_G Tryd.func35 rfl Tryd.ntmps35 rfl ?_
  simp only [argEnv]
  try (first | refine gl tb ?_ | refine gg tb ?_ | refine ll tb ?_ | refine lg tb ?_); repeat ((first | refine G.condT rfl ?_ | refine G.condF rfl ?_ | refine sFa tb ?_ | refine sLd tb ?_ | refine sLa tb ?_ | refine sLen tb ?_ | refine sFd tb ?_ | refine sBd tb ?_ | refine sBa tb ?_); try (first | refine gl tb ?_ | refine gg tb ?_ | refine ll tb ?_ | refine lg tb ?_))
  rw [bysC_len]
  try (first | refine gl tb ?_ | refine gg tb ?_ | refine ll tb ?_ | refine lg tb ?_); repeat ((first | refine G.condT rfl ?_ | refine G.condF rfl ?_ | refine sFa tb ?_ | refine sLd tb ?_ | refine sLa tb ?_ | refine sLen tb ?_ | refine sFd tb ?_ | refine sBd tb ?_ | refine sBa tb ?_); try (first | refine gl tb ?_ | refine gg tb ?_ | refine ll tb ?_ | refine lg tb ?_))
  first | refine G.condD rfl (fun hc => ?_) (fun hc => ?_) | refine G.condN rfl (fun hc => ?_) (fun hc => ?_) | refine G.cond rfl (fun hc => ?_) (fun hc => ?_)
  · obtain rfl : raw = [] := List.eq_nil_of_length_eq_zero (by omega)
    try (first | refine gl tb ?_ | refine gg tb ?_ | refine ll tb ?_ | refine lg tb ?_); repeat ((first | refine G.condT rfl ?_ | refine G.condF rfl ?_ | refine sFa tb ?_ | refine sLd tb ?_ | refine sLa tb ?_ | refine sLen tb ?_ | refine sFd tb ?_ | refine sBd tb ?_ | refine sBa tb ?_); try (first | refine gl tb ?_ | refine gg tb ?_ | refine ll tb ?_ | refine lg tb ?_))
    refine G.ret2 rfl rfl rfl rfl rfl ?_
    exact ⟨_, Ext.refl _, rfl, Owns.nil _ _ _ _⟩
  · obtain ⟨c, r0, rfl⟩ : ∃ c r0, raw = c :: r0 := by
      cases raw with
      | nil => simp at hc
      | cons a r => exact ⟨a, r, rfl⟩
    clear hc
    have hcl := c.toNat_lt
    have h0 : (bysC (c :: r0))[0]? = some [U c] := rfl
    obtain ⟨raw, hraw⟩ : ∃ raw, raw = c :: r0 := ⟨_, rfl⟩
    have hd1 : raw.drop 1 = r0 := by rw [hraw]; rfl
    obtain ⟨R, hR⟩ : ∃ R, R = readN c.toNat r0 := ⟨_, rfl⟩
    have hR0 : appR [] (readN (c.toNat - 0) (raw.drop 1)) = R := by
      rw [Nat.sub_zero, hR, hd1]
      cases readN c.toNat r0 with
      | none => rfl
      | some x => rfl
    have hrl : readL raw = finR R := by rw [hraw, hR]; rfl
    have hraw1 : 1 ≤ raw.length := by rw [hraw]; simp
    rw [← hraw] at hv h0 hbl hbig ⊢
    clear hraw hd1 hR
    try (first | refine gl tb ?_ | refine gg tb ?_ | refine ll tb ?_ | refine lg tb ?_); repeat ((first | refine G.condT rfl ?_ | refine G.condF rfl ?_ | refine sFa tb ?_ | refine sLd tb ?_ | refine sLa tb ?_ | refine sLen tb ?_ | refine sFd tb ?_ | refine sBd tb ?_ | refine sBa tb ?_); try (first | refine gl tb ?_ | refine gg tb ?_ | refine ll tb ?_ | refine lg tb ?_))
    refine (G.loop (fun x : Nat × Nat × Value => [(0, none, v), (4, none, .int .i64 x.2.1), (5, none, x.2.2), (6, none, .int .i64 x.1)])
      (fun x W => x.1 ≤ c.toNat ∧ Ext w W ∧ x.2.1 ≤ raw.length ∧ ∃ acc, LO W w.heap.size x.2.2 acc ∧ acc.length = x.1 ∧ appR acc (readN (c.toNat - x.1) (raw.drop x.2.1)) = R ∧ ∀ x ∈ acc, LabSz x) (fun x => c.toNat - x.1) (0, 1, .slice none 0 0) (by repeat (first | exact Sub.nil _ | refine Sub.cons rfl ?_))
      ⟨by simp, Ext.refl _, hraw1, [], Owns.nil _ _ _ _, rfl, hR0, by simp⟩ ?_)
    rintro ⟨k, at0, s⟩ W ⟨hk, hx, hat, acc, ho, hal, hap, hsz⟩
    simp only at hk hat ho hal hap ⊢
    have hvW := hv.to hx
    try (first | refine gl tb ?_ | refine gg tb ?_ | refine ll tb ?_ | refine lg tb ?_); repeat ((first | refine G.condT rfl ?_ | refine G.condF rfl ?_ | refine sFa tb ?_ | refine sLd tb ?_ | refine sLa tb ?_ | refine sLen tb ?_ | refine sFd tb ?_ | refine sBd tb ?_ | refine sBa tb ?_); try (first | refine gl tb ?_ | refine gg tb ?_ | refine ll tb ?_ | refine lg tb ?_))
    refine sIa tb 0 ?_ (hj := fun _ => ⟨rfl, by rw [hbl]; omega⟩)
    try (first | refine gl tb ?_ | refine gg tb ?_ | refine ll tb ?_ | refine lg tb ?_); repeat ((first | refine G.condT rfl ?_ | refine G.condF rfl ?_ | refine sFa tb ?_ | refine sLd tb ?_ | refine sLa tb ?_ | refine sLen tb ?_ | refine sFd tb ?_ | refine sBd tb ?_ | refine sBa tb ?_); try (first | refine gl tb ?_ | refine gg tb ?_ | refine ll tb ?_ | refine lg tb ?_))
    refine sCu tb ?_
    try (first | refine gl tb ?_ | refine gg tb ?_ | refine ll tb ?_ | refine lg tb ?_); repeat ((first | refine G.condT rfl ?_ | refine G.condF rfl ?_ | refine sFa tb ?_ | refine sLd tb ?_ | refine sLa tb ?_ | refine sLen tb ?_ | refine sFd tb ?_ | refine sBd tb ?_ | refine sBa tb ?_); try (first | refine gl tb ?_ | refine gg tb ?_ | refine ll tb ?_ | refine lg tb ?_))
    first | refine G.condD rfl (fun hc => ?_) (fun hc => ?_) | refine G.condN rfl (fun hc => ?_) (fun hc => ?_) | refine G.cond rfl (fun hc => ?_) (fun hc => ?_)
    · have hlt : k < c.toNat := by omega
      have hck : c.toNat - k = (c.toNat - (k + 1)) + 1 := by omega
      try (first | refine gl tb ?_ | refine gg tb ?_ | refine ll tb ?_ | refine lg tb ?_); repeat ((first | refine G.condT rfl ?_ | refine G.condF rfl ?_ | refine sFa tb ?_ | refine sLd tb ?_ | refine sLa tb ?_ | refine sLen tb ?_ | refine sFd tb ?_ | refine sBd tb ?_ | refine sBa tb ?_); try (first | refine gl tb ?_ | refine gg tb ?_ | refine ll tb ?_ | refine lg tb ?_))
      refine sAl tb ?_
      intro W1 hb1 hs1 hx1
      have hB := hx.size
      try (first | refine gl tb ?_ | refine gg tb ?_ | refine ll tb ?_ | refine lg tb ?_); repeat ((first | refine G.condT rfl ?_ | refine G.condF rfl ?_ | refine sFa tb ?_ | refine sLd tb ?_ | refine sLa tb ?_ | refine sLen tb ?_ | refine sFd tb ?_ | refine sBd tb ?_ | refine sBa tb ?_); try (first | refine gl tb ?_ | refine gg tb ?_ | refine ll tb ?_ | refine lg tb ?_))
      refine (G.loop (fun x : Nat × Nat => [(0, none, v), (4, none, .int .i64 x.2), (5, none, s), (6, none, .int .i64 k), (7, none, ptr W.heap.size), (8, none, .int .i64 x.1)])
        (fun x W2 => Ext W W2 ∧ x.2 ≤ raw.length ∧ ∃ arr, Bx W2 W.heap.size arr ∧ inner (raw.drop at0) x.1 (raw.drop x.2) arr) (fun x => 2 - x.1) (0, at0) (by repeat (first | exact Sub.nil _ | refine Sub.cons rfl ?_))
        ⟨hx1, hat, _, hb1, .inl ⟨rfl, rfl, rfl⟩⟩ ?_)
      clear hb1 hs1 hx1 hvW
      rintro ⟨j, at_⟩ W2 ⟨hx2, hat2, arr, hb2, hin⟩
      simp only at hat2 hin ⊢
      obtain ⟨hal2, hj2, hone⟩ := inner_len hin
      have hx02 := hx.trans hx2
      have hv2 := hv.to hx02
      try (first | refine gl tb ?_ | refine gg tb ?_ | refine ll tb ?_ | refine lg tb ?_); repeat ((first | refine G.condT rfl ?_ | refine G.condF rfl ?_ | refine sFa tb ?_ | refine sLd tb ?_ | refine sLa tb ?_ | refine sLen tb ?_ | refine sFd tb ?_ | refine sBd tb ?_ | refine sBa tb ?_); try (first | refine gl tb ?_ | refine gg tb ?_ | refine ll tb ?_ | refine lg tb ?_))
      first | refine G.condD rfl (fun hc => ?_) (fun hc => ?_) | refine G.condN rfl (fun hc => ?_) (fun hc => ?_) | refine G.cond rfl (fun hc => ?_) (fun hc => ?_)
      · have hjl : j < 2 := by omega
        try (first | refine gl tb ?_ | refine gg tb ?_ | refine ll tb ?_ | refine lg tb ?_); repeat ((first | refine G.condT rfl ?_ | refine G.condF rfl ?_ | refine sFa tb ?_ | refine sLd tb ?_ | refine sLa tb ?_ | refine sLen tb ?_ | refine sFd tb ?_ | refine sBd tb ?_ | refine sBa tb ?_); try (first | refine gl tb ?_ | refine gg tb ?_ | refine ll tb ?_ | refine lg tb ?_))
        refine sAd tb ?_
        try (first | refine gl tb ?_ | refine gg tb ?_ | refine ll tb ?_ | refine lg tb ?_); repeat ((first | refine G.condT rfl ?_ | refine G.condF rfl ?_ | refine sFa tb ?_ | refine sLd tb ?_ | refine sLa tb ?_ | refine sLen tb ?_ | refine sFd tb ?_ | refine sBd tb ?_ | refine sBa tb ?_); try (first | refine gl tb ?_ | refine gg tb ?_ | refine ll tb ?_ | refine lg tb ?_))
        rw [bysC_len]
        try (first | refine gl tb ?_ | refine gg tb ?_ | refine ll tb ?_ | refine lg tb ?_); repeat ((first | refine G.condT rfl ?_ | refine G.condF rfl ?_ | refine sFa tb ?_ | refine sLd tb ?_ | refine sLa tb ?_ | refine sLen tb ?_ | refine sFd tb ?_ | refine sBd tb ?_ | refine sBa tb ?_); try (first | refine gl tb ?_ | refine gg tb ?_ | refine ll tb ?_ | refine lg tb ?_))
        first | refine G.condD rfl (fun hc => ?_) (fun hc => ?_) | refine G.condN rfl (fun hc => ?_) (fun hc => ?_) | refine G.cond rfl (fun hc => ?_) (fun hc => ?_)
        · have hRn : R = none := by rw [← hap, hck, inner_fail hin hjl (readT_short (by omega))]; rfl
          try (first | refine gl tb ?_ | refine gg tb ?_ | refine ll tb ?_ | refine lg tb ?_); repeat ((first | refine G.condT rfl ?_ | refine G.condF rfl ?_ | refine sFa tb ?_ | refine sLd tb ?_ | refine sLa tb ?_ | refine sLen tb ?_ | refine sFd tb ?_ | refine sBd tb ?_ | refine sBa tb ?_); try (first | refine gl tb ?_ | refine gg tb ?_ | refine ll tb ?_ | refine lg tb ?_))
          refine G.ret2 rfl rfl rfl rfl rfl ?_
          refine ⟨.slice none 0 0, hx02, ?_⟩
          rw [hrl, hRn]
          exact ⟨rfl, Owns.nil _ _ _ _⟩
        · have hle : at_ + 2 ≤ raw.length := by omega
          have hga := bysC_get (l := raw) (i := at_) (by omega)
          have hgb := bysC_get (l := raw) (i := at_ + 1) (by omega)
          have hrd := readT_drop hle
          have hau := (raw.getD at_ 0).toNat_lt
          have hbu := (raw.getD (at_ + 1) 0).toNat_lt
          try (first | refine gl tb ?_ | refine gg tb ?_ | refine ll tb ?_ | refine lg tb ?_); repeat ((first | refine G.condT rfl ?_ | refine G.condF rfl ?_ | refine sFa tb ?_ | refine sLd tb ?_ | refine sLa tb ?_ | refine sLen tb ?_ | refine sFd tb ?_ | refine sBd tb ?_ | refine sBa tb ?_); try (first | refine gl tb ?_ | refine gg tb ?_ | refine ll tb ?_ | refine lg tb ?_))
          refine G.regionM [(0, true), (1, true), (2, true), (3, true), (4, true), (5, true), (6, true), (7, true), (8, true), (9, true), (10, true), (11, true), (12, true), (13, true)] (Ext W2) (by kernel_rfl) (by kernel_rfl) rfl mixed (Ext.drew W2) rfl ?_
          try (refine mm tb ?_); repeat ((first | refine dFa tb ?_ | refine dLd tb ?_ | refine dLa tb ?_ | refine dLen tb ?_ | refine dFd tb ?_); try (refine mm tb ?_))
          refine dIa tb at_ ?_ (hj := fun _ => ⟨rfl, by rw [hbl]; omega⟩)
          try (refine mm tb ?_); repeat ((first | refine dFa tb ?_ | refine dLd tb ?_ | refine dLa tb ?_ | refine dLen tb ?_ | refine dFd tb ?_); try (refine mm tb ?_))
          refine dCu tb ?_
          refine dAd tb ?_
          try (refine mm tb ?_); repeat ((first | refine dFa tb ?_ | refine dLd tb ?_ | refine dLa tb ?_ | refine dLen tb ?_ | refine dFd tb ?_); try (refine mm tb ?_))
          refine dAd tb ?_
          refine dIa tb (at_ + 1) ?_ (hj := fun _ => ⟨by omega, by rw [hbl]; omega⟩)
          try (refine mm tb ?_); repeat ((first | refine dFa tb ?_ | refine dLd tb ?_ | refine dLa tb ?_ | refine dLen tb ?_ | refine dFd tb ?_); try (refine mm tb ?_))
          refine dCu tb ?_
          refine dAd tb ?_
          try (refine mm tb ?_); repeat ((first | refine dFa tb ?_ | refine dLd tb ?_ | refine dLa tb ?_ | refine dLen tb ?_ | refine dFd tb ?_); try (refine mm tb ?_))
          refine GM.nil ?_
          have hx3 := hx2.drew'
          have hb3 := hb2.to (Ext.drew W2)
          have hv3 := hv2.to (Ext.drew W2)
          generalize W2.drew = W3 at hx3 hb3 hv3 ⊢
          obtain ⟨n, hn⟩ : ∃ n, n = (raw.getD at_ 0).toNat * 256 + (raw.getD (at_ + 1) 0).toNat := ⟨_, rfl⟩
          have hnI : ((raw.getD at_ 0).toNat : Int) * 256 + ((raw.getD (at_ + 1) 0).toNat : Int) = (n : Int) := by rw [hn]; omega
          rw [← hn] at hrd
          rw [hnI]
          have hx03 := hx.trans hx3
          try (first | refine gl tb ?_ | refine gg tb ?_ | refine ll tb ?_ | refine lg tb ?_); repeat ((first | refine G.condT rfl ?_ | refine G.condF rfl ?_ | refine sFa tb ?_ | refine sLd tb ?_ | refine sLa tb ?_ | refine sLen tb ?_ | refine sFd tb ?_ | refine sBd tb ?_ | refine sBa tb ?_); try (first | refine gl tb ?_ | refine gg tb ?_ | refine ll tb ?_ | refine lg tb ?_))
          refine sAd tb ?_
          try (first | refine gl tb ?_ | refine gg tb ?_ | refine ll tb ?_ | refine lg tb ?_); repeat ((first | refine G.condT rfl ?_ | refine G.condF rfl ?_ | refine sFa tb ?_ | refine sLd tb ?_ | refine sLa tb ?_ | refine sLen tb ?_ | refine sFd tb ?_ | refine sBd tb ?_ | refine sBa tb ?_); try (first | refine gl tb ?_ | refine gg tb ?_ | refine ll tb ?_ | refine lg tb ?_))
          rw [bysC_len]
          refine sAd tb ?_
          try (first | refine gl tb ?_ | refine gg tb ?_ | refine ll tb ?_ | refine lg tb ?_); repeat ((first | refine G.condT rfl ?_ | refine G.condF rfl ?_ | refine sFa tb ?_ | refine sLd tb ?_ | refine sLa tb ?_ | refine sLen tb ?_ | refine sFd tb ?_ | refine sBd tb ?_ | refine sBa tb ?_); try (first | refine gl tb ?_ | refine gg tb ?_ | refine ll tb ?_ | refine lg tb ?_))
          first | refine G.condD rfl (fun hc => ?_) (fun hc => ?_) | refine G.condN rfl (fun hc => ?_) (fun hc => ?_) | refine G.cond rfl (fun hc => ?_) (fun hc => ?_)
          · have hRn : R = none := by rw [← hap, hck, inner_fail hin hjl (by rw [hrd, if_neg (by omega)])]; rfl
            try (first | refine gl tb ?_ | refine gg tb ?_ | refine ll tb ?_ | refine lg tb ?_); repeat ((first | refine G.condT rfl ?_ | refine G.condF rfl ?_ | refine sFa tb ?_ | refine sLd tb ?_ | refine sLa tb ?_ | refine sLen tb ?_ | refine sFd tb ?_ | refine sBd tb ?_ | refine sBa tb ?_); try (first | refine gl tb ?_ | refine gg tb ?_ | refine ll tb ?_ | refine lg tb ?_))
            refine G.ret2 rfl rfl rfl rfl rfl ?_
            refine ⟨.slice none 0 0, hx03, ?_⟩
            rw [hrl, hRn]
            exact ⟨rfl, Owns.nil _ _ _ _⟩
          · rw [if_pos (by omega)] at hrd
            have hin2 := inner_step hin hjl hrd
            try (first | refine gl tb ?_ | refine gg tb ?_ | refine ll tb ?_ | refine lg tb ?_); repeat ((first | refine G.condT rfl ?_ | refine G.condF rfl ?_ | refine sFa tb ?_ | refine sLd tb ?_ | refine sLa tb ?_ | refine sLen tb ?_ | refine sFd tb ?_ | refine sBd tb ?_ | refine sBa tb ?_); try (first | refine gl tb ?_ | refine gg tb ?_ | refine ll tb ?_ | refine lg tb ?_))
            refine sAd tb ?_
            refine sBlh tb (at_ + 2) (at_ + 2 + n) hv3 ?_ (hk := ⟨by omega, by omega, by omega, by omega⟩)
            have hsub := By.sub hv3 (a := at_ + 2) (b := at_ + 2 + n) (by omega) (by omega)
            rw [Nat.add_sub_cancel_left] at hsub
            refine sByS tb hsub ?_
            refine sIaA tb j ?_
            refine sSf tb ?_ (off := j * 1) (hl := by omega)
            intro W4 hb4 hw4
            have e4 : arr.take (j * 1) ++ [S ((raw.drop (at_ + 2)).take n)] ++ arr.drop (j * 1 + 1) = arr.set j (S ((raw.drop (at_ + 2)).take n)) := by
              rw [List.set_eq_take_append_cons_drop, if_pos (by omega), Nat.mul_one, List.append_assoc]; rfl
            rw [e4] at hb4
            have hx4 : Ext W W4 := Below.wr hx3 hw4 (Nat.le_refl _)
            try (first | refine gl tb ?_ | refine gg tb ?_ | refine ll tb ?_ | refine lg tb ?_); repeat ((first | refine G.condT rfl ?_ | refine G.condF rfl ?_ | refine sFa tb ?_ | refine sLd tb ?_ | refine sLa tb ?_ | refine sLen tb ?_ | refine sFd tb ?_ | refine sBd tb ?_ | refine sBa tb ?_); try (first | refine gl tb ?_ | refine gg tb ?_ | refine ll tb ?_ | refine lg tb ?_))
            refine sAd tb ?_
            try (first | refine gl tb ?_ | refine gg tb ?_ | refine ll tb ?_ | refine lg tb ?_); repeat ((first | refine G.condT rfl ?_ | refine G.condF rfl ?_ | refine sFa tb ?_ | refine sLd tb ?_ | refine sLa tb ?_ | refine sLen tb ?_ | refine sFd tb ?_ | refine sBd tb ?_ | refine sBa tb ?_); try (first | refine gl tb ?_ | refine gg tb ?_ | refine ll tb ?_ | refine lg tb ?_))
            refine sAd tb ?_
            try (first | refine gl tb ?_ | refine gg tb ?_ | refine ll tb ?_ | refine lg tb ?_); repeat ((first | refine G.condT rfl ?_ | refine G.condF rfl ?_ | refine sFa tb ?_ | refine sLd tb ?_ | refine sLa tb ?_ | refine sLen tb ?_ | refine sFd tb ?_ | refine sBd tb ?_ | refine sBa tb ?_); try (first | refine gl tb ?_ | refine gg tb ?_ | refine ll tb ?_ | refine lg tb ?_))
            exact G.lp (x := (j, at_)) (j + 1, at_ + 2 + n) (by repeat (first | exact Sub.nil _ | refine Sub.cons rfl ?_)) ⟨hx4, by simp only; omega, _, hb4, hin2⟩ (by simp only; omega)
      · have hje : j = 2 := by omega
        subst hje
        obtain ⟨s0, l1, s1, hr0, hr1, hl0, hl1, rfl⟩ : ∃ s0 l1 s1, readT (raw.drop at0) = some (s0, l1) ∧ readT l1 = some (s1, raw.drop at_) ∧ s0.length ≤ 65535 ∧ s1.length ≤ 65535 ∧ arr = [S s0, S s1] := by
          rcases hin with ⟨h, _⟩ | ⟨h, _⟩ | ⟨_, h⟩
          · omega
          · omega
          · exact h
        have ho2 := ho.to hx2
        rw [hck, appR_step hr0 hr1] at hap
        try (first | refine gl tb ?_ | refine gg tb ?_ | refine ll tb ?_ | refine lg tb ?_); repeat ((first | refine G.condT rfl ?_ | refine G.condF rfl ?_ | refine sFa tb ?_ | refine sLd tb ?_ | refine sLa tb ?_ | refine sLen tb ?_ | refine sFd tb ?_ | refine sBd tb ?_ | refine sBa tb ?_); try (first | refine gl tb ?_ | refine gg tb ?_ | refine ll tb ?_ | refine lg tb ?_))
        refine sIaA tb 0 ?_
        try (first | refine gl tb ?_ | refine gg tb ?_ | refine ll tb ?_ | refine lg tb ?_); repeat ((first | refine G.condT rfl ?_ | refine G.condF rfl ?_ | refine sFa tb ?_ | refine sLd tb ?_ | refine sLa tb ?_ | refine sLen tb ?_ | refine sFd tb ?_ | refine sBd tb ?_ | refine sBa tb ?_); try (first | refine gl tb ?_ | refine gg tb ?_ | refine ll tb ?_ | refine lg tb ?_))
        refine sIaA tb 1 ?_
        try (first | refine gl tb ?_ | refine gg tb ?_ | refine ll tb ?_ | refine lg tb ?_); repeat ((first | refine G.condT rfl ?_ | refine G.condF rfl ?_ | refine sFa tb ?_ | refine sLd tb ?_ | refine sLa tb ?_ | refine sLen tb ?_ | refine sFd tb ?_ | refine sBd tb ?_ | refine sBa tb ?_); try (first | refine gl tb ?_ | refine gg tb ?_ | refine ll tb ?_ | refine lg tb ?_))
        refine sBs' tb [labC (s0, s1)] ?_ (hkl := labLen [_])
        intro v5 W5 ho5 hs5 hx5
        have hx05 := hx02.trans hx5
        refine sApp tb (ho2.to hx5) ho5.sli ?_ (h1 := lab1 [_]) (hB := hx05.size)
        intro v6 W6 ho6 hg6
        try (first | refine gl tb ?_ | refine gg tb ?_ | refine ll tb ?_ | refine lg tb ?_); repeat ((first | refine G.condT rfl ?_ | refine G.condF rfl ?_ | refine sFa tb ?_ | refine sLd tb ?_ | refine sLa tb ?_ | refine sLen tb ?_ | refine sFd tb ?_ | refine sBd tb ?_ | refine sBa tb ?_); try (first | refine gl tb ?_ | refine gg tb ?_ | refine ll tb ?_ | refine lg tb ?_))
        refine sAd tb ?_
        try (first | refine gl tb ?_ | refine gg tb ?_ | refine ll tb ?_ | refine lg tb ?_); repeat ((first | refine G.condT rfl ?_ | refine G.condF rfl ?_ | refine sFa tb ?_ | refine sLd tb ?_ | refine sLa tb ?_ | refine sLen tb ?_ | refine sFd tb ?_ | refine sBd tb ?_ | refine sBa tb ?_); try (first | refine gl tb ?_ | refine gg tb ?_ | refine ll tb ?_ | refine lg tb ?_))
        refine G.lp (x := (k, at0, s)) (k + 1, at_, v6) (by repeat (first | exact Sub.nil _ | refine Sub.cons rfl ?_)) ⟨by simp only; omega, hg6.below _ hx05, hat2, acc ++ [(s0, s1)], ?_, by simp [hal], hap, ?_⟩ (by simp only; omega)
        · unfold LO; rw [List.map_append]; exact ho6
        · intro x hx
          rcases List.mem_append.1 hx with hx | hx
          · exact hsz x hx
          · simp only [List.mem_cons, List.not_mem_nil, or_false] at hx
            subst hx
            exact ⟨show s0.length ≤ _ by omega, show s1.length ≤ _ by omega⟩
    · have hke : k = c.toNat := by omega
      subst hke
      rw [Nat.sub_self] at hap
      have hRa : R = some (acc, raw.drop at0) := by rw [← hap]; simp [readN, appR]
      have hlen : (raw.drop at0).length = raw.length - at0 := List.length_drop ..
      have hfin : readL raw = if (decide ((0 : Int) < (raw.drop at0).length) || !rightB acc) = true then none else some acc := by rw [hrl, hRa]; rfl
      try (first | refine gl tb ?_ | refine gg tb ?_ | refine ll tb ?_ | refine lg tb ?_); repeat ((first | refine G.condT rfl ?_ | refine G.condF rfl ?_ | refine sFa tb ?_ | refine sLd tb ?_ | refine sLa tb ?_ | refine sLen tb ?_ | refine sFd tb ?_ | refine sBd tb ?_ | refine sBa tb ?_); try (first | refine gl tb ?_ | refine gg tb ?_ | refine ll tb ?_ | refine lg tb ?_))
      rw [bysC_len]
      try (first | refine gl tb ?_ | refine gg tb ?_ | refine ll tb ?_ | refine lg tb ?_); repeat ((first | refine G.condT rfl ?_ | refine G.condF rfl ?_ | refine sFa tb ?_ | refine sLd tb ?_ | refine sLa tb ?_ | refine sLen tb ?_ | refine sFd tb ?_ | refine sBd tb ?_ | refine sBa tb ?_); try (first | refine gl tb ?_ | refine gg tb ?_ | refine ll tb ?_ | refine lg tb ?_))
      refine sCallx c23 (fun hc => refRight_ok s acc W ho.sli hsz) ?_
      intro W1 hx1
      have hd : (!decide ((at0 : Int) = (raw.length : Int))) = decide ((0 : Int) < (raw.drop at0).length) := by
        rw [hlen]
        by_cases h : (at0 : Int) = raw.length
        · rw [decide_eq_true h, decide_eq_false (by omega)]; rfl
        · rw [decide_eq_false h, decide_eq_true (by omega)]; rfl
      rw [hd]
      try (first | refine gl tb ?_ | refine gg tb ?_ | refine ll tb ?_ | refine lg tb ?_); repeat ((first | refine G.condT rfl ?_ | refine G.condF rfl ?_ | refine sFa tb ?_ | refine sLd tb ?_ | refine sLa tb ?_ | refine sLen tb ?_ | refine sFd tb ?_ | refine sBd tb ?_ | refine sBa tb ?_); try (first | refine gl tb ?_ | refine gg tb ?_ | refine ll tb ?_ | refine lg tb ?_))
      first | refine G.condD rfl (fun hc => ?_) (fun hc => ?_) | refine G.condN rfl (fun hc => ?_) (fun hc => ?_) | refine G.cond rfl (fun hc => ?_) (fun hc => ?_)
      · rw [hfin, if_pos hc]
        try (first | refine gl tb ?_ | refine gg tb ?_ | refine ll tb ?_ | refine lg tb ?_); repeat ((first | refine G.condT rfl ?_ | refine G.condF rfl ?_ | refine sFa tb ?_ | refine sLd tb ?_ | refine sLa tb ?_ | refine sLen tb ?_ | refine sFd tb ?_ | refine sBd tb ?_ | refine sBa tb ?_); try (first | refine gl tb ?_ | refine gg tb ?_ | refine ll tb ?_ | refine lg tb ?_))
        refine G.ret2 rfl rfl rfl rfl rfl ?_
        exact ⟨_, hx.trans hx1, rfl, Owns.nil _ _ _ _⟩
      · rw [hfin, if_neg (by rw [hc]; simp)]
        try (first | refine gl tb ?_ | refine gg tb ?_ | refine ll tb ?_ | refine lg tb ?_); repeat ((first | refine G.condT rfl ?_ | refine G.condF rfl ?_ | refine sFa tb ?_ | refine sLd tb ?_ | refine sLa tb ?_ | refine sLen tb ?_ | refine sFd tb ?_ | refine sBd tb ?_ | refine sBa tb ?_); try (first | refine gl tb ?_ | refine gg tb ?_ | refine ll tb ?_ | refine lg tb ?_))
        refine G.ret2 rfl rfl rfl rfl rfl ?_
        exact ⟨_, hx.trans hx1, rfl, ho.to hx1⟩
end Go.Proofs.YtfffblopkaandaaDoor
