/- labels: a set read out of its bytes, walked. -/
import Derived.Test.YtfffblopkaandaaDoorLRt
import Derived.Test.YtfffblopkaandaaDoorLY
import Derived.Test.YtfffblopkaandaaDoorGL2
import Derived.Test.YtfffblopkaandaaDoorGV2
open Go Go.Vg Go.RowKit Go.Proofs Go.Proofs.YtfffblopkaandaaDoor
namespace Go.Proofs.YtfffblopkaandaaDoor
set_option linter.unusedSimpArgs false

/-- a text ahead of bytes -/
def readT : List UInt8 → Option (List UInt8 × List UInt8)
  | a :: b :: r => if a.toNat * 256 + b.toNat ≤ r.length then some (r.take (a.toNat * 256 + b.toNat), r.drop (a.toNat * 256 + b.toNat)) else none
  | _ => none
theorem readT_len {l s r : List UInt8} (h : readT l = some (s, r)) : s.length ≤ 65535 ∧ r.length ≤ l.length := by
  unfold readT at h
  split at h
  · rename_i a b r'
    split at h
    · have := a.toNat_lt
      have := b.toNat_lt
      cases h
      simp only [List.length_take, List.length_drop, List.length_cons]; omega
    · cases h
  · cases h

theorem text1_ok (b : Nat) (v : Value) (l : List UInt8) (w0 w : World) (hv : By w0 v l) (hx : Ext w0 w) (hb : Bx w b [v]) (hB : w0.heap.size ≤ b) :
    Ret Tryd.prog 67 ⟨[ptr b]⟩ w fun r w' => match readT l with
      | none => r = .tuple ⟨[S [], .bool false]⟩ ∧ w.heap.size ≤ w'.heap.size ∧ Grew w0.heap.size (blk b) w w' ∧ Bx w' b [v]
      | some (s, l') => ∃ v', r = .tuple ⟨[S s, .bool true]⟩ ∧ By w0 v' l' ∧ Bx w' b [v'] ∧ Grew w0.heap.size (blk b) w w' := by
  have hbd := hv.bound
  rw [bysC_len] at hbd
  have hv1 := hv.to hx
  have hxz := hx.size
  have hbl := bysC_len l
  refine ret_of_G Tryd.func67 rfl Tryd.ntmps67 rfl ?_
  simp only [argEnv]
  try (first | refine gl tb ?_ | refine gg tb ?_ | refine ll tb ?_ | refine lg tb ?_); repeat ((first | refine G.condT rfl ?_ | refine G.condF rfl ?_ | refine sFa tb ?_ | refine sLd tb ?_ | refine sLa tb ?_ | refine sLen tb ?_ | refine sFd tb ?_ | refine sBd tb ?_ | refine sBa tb ?_); try (first | refine gl tb ?_ | refine gg tb ?_ | refine ll tb ?_ | refine lg tb ?_))
  rw [bysC_len]
  try (first | refine gl tb ?_ | refine gg tb ?_ | refine ll tb ?_ | refine lg tb ?_); repeat ((first | refine G.condT rfl ?_ | refine G.condF rfl ?_ | refine sFa tb ?_ | refine sLd tb ?_ | refine sLa tb ?_ | refine sLen tb ?_ | refine sFd tb ?_ | refine sBd tb ?_ | refine sBa tb ?_); try (first | refine gl tb ?_ | refine gg tb ?_ | refine ll tb ?_ | refine lg tb ?_))
  first | refine G.condD rfl (fun hc => ?_) (fun hc => ?_) | refine G.condN rfl (fun hc => ?_) (fun hc => ?_) | refine G.cond rfl (fun hc => ?_) (fun hc => ?_)
  · have hr : readT l = none := by
      unfold readT
      match l, hc with
      | [], _ => rfl
      | [_], _ => rfl
      | _ :: _ :: _, hc => simp at hc; omega
    rw [hr]
    try (first | refine gl tb ?_ | refine gg tb ?_ | refine ll tb ?_ | refine lg tb ?_); repeat ((first | refine G.condT rfl ?_ | refine G.condF rfl ?_ | refine sFa tb ?_ | refine sLd tb ?_ | refine sLa tb ?_ | refine sLen tb ?_ | refine sFd tb ?_ | refine sBd tb ?_ | refine sBa tb ?_); try (first | refine gl tb ?_ | refine gg tb ?_ | refine ll tb ?_ | refine lg tb ?_))
    refine G.ret2 rfl rfl rfl rfl rfl ?_
    exact ⟨rfl, Nat.le_refl _, Grew.refl _ _ _, hb⟩
  · match l, hc with
    | [], hc => simp at hc
    | [_], hc => simp at hc
    | a :: c :: r, _ =>
      have h0 : (bysC (a :: c :: r))[0]? = some [U a] := rfl
      have h1 : (bysC (a :: c :: r))[1]? = some [U c] := rfl
      have ha := a.toNat_lt
      have hcc := c.toNat_lt
      obtain ⟨n, hn⟩ : ∃ n : Nat, n = a.toNat * 256 + c.toNat := ⟨_, rfl⟩
      have hor : bits .or .i64 ((a.toNat : Int) * 256) (c.toNat : Int) = (n : Int) := by rw [hn]; exact or_bytes _ _ (by omega) hcc
      have hr : readT (a :: c :: r) = if n ≤ r.length then some (r.take n, r.drop n) else none := by rw [hn]; rfl
      simp only [List.length_cons] at hbd hbl
      try (first | refine gl tb ?_ | refine gg tb ?_ | refine ll tb ?_ | refine lg tb ?_); repeat ((first | refine G.condT rfl ?_ | refine G.condF rfl ?_ | refine sFa tb ?_ | refine sLd tb ?_ | refine sLa tb ?_ | refine sLen tb ?_ | refine sFd tb ?_ | refine sBd tb ?_ | refine sBa tb ?_); try (first | refine gl tb ?_ | refine gg tb ?_ | refine ll tb ?_ | refine lg tb ?_))
      refine G.regionM [(0, true), (1, true), (2, true), (3, true), (4, true), (5, true), (6, true), (7, true), (8, true), (9, true), (10, true)] (Ext w) (by kernel_rfl) (by kernel_rfl) rfl mixed (Ext.drew w) rfl ?_
      try (refine mm tb ?_); repeat ((first | refine dFa tb ?_ | refine dLd tb ?_ | refine dLa tb ?_ | refine dLen tb ?_ | refine dFd tb ?_); try (refine mm tb ?_))
      refine dIa tb 0 ?_ (hj := fun _ => ⟨rfl, by rw [hbl]; omega⟩)
      try (refine mm tb ?_); repeat ((first | refine dFa tb ?_ | refine dLd tb ?_ | refine dLa tb ?_ | refine dLen tb ?_ | refine dFd tb ?_); try (refine mm tb ?_))
      refine dCu tb ?_
      refine dShl (a := (a.toNat : Int)) (n := 8) (r := (a.toNat : Int) * 256) (by rw [show (2 : Int) ^ 8 = 256 from rfl]; exact wrap_i64 (by omega) (by omega)) ?_
      try (refine mm tb ?_); repeat ((first | refine dFa tb ?_ | refine dLd tb ?_ | refine dLa tb ?_ | refine dLen tb ?_ | refine dFd tb ?_); try (refine mm tb ?_))
      refine dIa tb 1 ?_ (hj := fun _ => ⟨rfl, by rw [hbl]; omega⟩)
      try (refine mm tb ?_); repeat ((first | refine dFa tb ?_ | refine dLd tb ?_ | refine dLa tb ?_ | refine dLen tb ?_ | refine dFd tb ?_); try (refine mm tb ?_))
      refine dCu tb ?_
      try (refine mm tb ?_); repeat ((first | refine dFa tb ?_ | refine dLd tb ?_ | refine dLa tb ?_ | refine dLen tb ?_ | refine dFd tb ?_); try (refine mm tb ?_))
      rw [hor]
      refine GM.nil ?_
      have hb2 := hb.to (Ext.drew w)
      have hv2 := hv1.to (Ext.drew w)
      have hg2 : Grew w0.heap.size (blk b) w w.drew := Grew.ofExt (Ext.drew w) hxz
      generalize w.drew = w2 at hb2 hv2 hg2 ⊢
      try (first | refine gl tb ?_ | refine gg tb ?_ | refine ll tb ?_ | refine lg tb ?_); repeat ((first | refine G.condT rfl ?_ | refine G.condF rfl ?_ | refine sFa tb ?_ | refine sLd tb ?_ | refine sLa tb ?_ | refine sLen tb ?_ | refine sFd tb ?_ | refine sBd tb ?_ | refine sBa tb ?_); try (first | refine gl tb ?_ | refine gg tb ?_ | refine ll tb ?_ | refine lg tb ?_))
      rw [hbl]
      refine sAd tb ?_
      try (first | refine gl tb ?_ | refine gg tb ?_ | refine ll tb ?_ | refine lg tb ?_); repeat ((first | refine G.condT rfl ?_ | refine G.condF rfl ?_ | refine sFa tb ?_ | refine sLd tb ?_ | refine sLa tb ?_ | refine sLen tb ?_ | refine sFd tb ?_ | refine sBd tb ?_ | refine sBa tb ?_); try (first | refine gl tb ?_ | refine gg tb ?_ | refine ll tb ?_ | refine lg tb ?_))
      first | refine G.condD rfl (fun hc => ?_) (fun hc => ?_) | refine G.condN rfl (fun hc => ?_) (fun hc => ?_) | refine G.cond rfl (fun hc => ?_) (fun hc => ?_)
      · rw [hr, if_neg (by omega)]
        try (first | refine gl tb ?_ | refine gg tb ?_ | refine ll tb ?_ | refine lg tb ?_); repeat ((first | refine G.condT rfl ?_ | refine G.condF rfl ?_ | refine sFa tb ?_ | refine sLd tb ?_ | refine sLa tb ?_ | refine sLen tb ?_ | refine sFd tb ?_ | refine sBd tb ?_ | refine sBa tb ?_); try (first | refine gl tb ?_ | refine gg tb ?_ | refine ll tb ?_ | refine lg tb ?_))
        refine G.ret2 rfl rfl rfl rfl rfl ?_
        exact ⟨rfl, hg2.size, hg2, hb2⟩
      · rw [hr, if_pos (by omega)]
        try (first | refine gl tb ?_ | refine gg tb ?_ | refine ll tb ?_ | refine lg tb ?_); repeat ((first | refine G.condT rfl ?_ | refine G.condF rfl ?_ | refine sFa tb ?_ | refine sLd tb ?_ | refine sLa tb ?_ | refine sLen tb ?_ | refine sFd tb ?_ | refine sBd tb ?_ | refine sBa tb ?_); try (first | refine gl tb ?_ | refine gg tb ?_ | refine ll tb ?_ | refine lg tb ?_))
        refine sAd tb ?_
        refine sBlh tb 2 (2 + n) hv2 ?_
        have hsub := By.sub hv2 (a := 2) (b := 2 + n) (by omega) (by simp only [List.length_cons]; omega)
        have e1 : ((a :: c :: r).drop 2).take (2 + n - 2) = r.take n := by
          rw [Nat.add_sub_cancel_left]; rfl
        rw [e1] at hsub
        refine sByS tb hsub ?_
        try (first | refine gl tb ?_ | refine gg tb ?_ | refine ll tb ?_ | refine lg tb ?_); repeat ((first | refine G.condT rfl ?_ | refine G.condF rfl ?_ | refine sFa tb ?_ | refine sLd tb ?_ | refine sLa tb ?_ | refine sLen tb ?_ | refine sFd tb ?_ | refine sBd tb ?_ | refine sBa tb ?_); try (first | refine gl tb ?_ | refine gg tb ?_ | refine ll tb ?_ | refine lg tb ?_))
        refine sAd tb ?_
        refine sBlo tb (2 + n) hv2 ?_
        have hsub2 := By.sub hv (a := 2 + n) (b := (a :: c :: r).length) (by simp only [List.length_cons]; omega) (Nat.le_refl _)
        have e2 : ((a :: c :: r).drop (2 + n)).take ((a :: c :: r).length - (2 + n)) = r.drop n := by
          rw [List.take_of_length_le (by simp), Nat.add_comm]; rfl
        rw [e2] at hsub2
        refine sSt tb ?_ (b := b) (h1 := hsub2.one) (hv := hsub2.cells)
        intro w3 hb3 hw3
        try (first | refine gl tb ?_ | refine gg tb ?_ | refine ll tb ?_ | refine lg tb ?_); repeat ((first | refine G.condT rfl ?_ | refine G.condF rfl ?_ | refine sFa tb ?_ | refine sLd tb ?_ | refine sLa tb ?_ | refine sLen tb ?_ | refine sFd tb ?_ | refine sBd tb ?_ | refine sBa tb ?_); try (first | refine gl tb ?_ | refine gg tb ?_ | refine ll tb ?_ | refine lg tb ?_))
        refine G.ret2 rfl rfl rfl rfl rfl ?_
        exact ⟨_, rfl, hsub2, hb3, hg2.trans (Grew.ofWr hw3 hB)⟩

def readN : Nat → List UInt8 → Option (List Lab × List UInt8)
  | 0, l => some ([], l)
  | n + 1, l => match readT l with
    | none => none
    | some (a, l1) => match readT l1 with
      | none => none
      | some (b, l2) => match readN n l2 with
        | none => none
        | some (ls, r) => some ((a, b) :: ls, r)
def readL (raw : List UInt8) : Option (List Lab) := match raw with
  | [] => none
  | c :: r => match readN c.toNat r with
    | none => none
    | some (ls, rest) => if (decide ((0 : Int) < rest.length) || !rightB ls) = true then none else some ls
def appR (acc : List Lab) : Option (List Lab × List UInt8) → Option (List Lab × List UInt8)
  | none => none
  | some (ls, r) => some (acc ++ ls, r)
theorem appR_step {acc : List Lab} {n : Nat} {l l1 l2 a b : List UInt8} (h1 : readT l = some (a, l1)) (h2 : readT l1 = some (b, l2)) : appR acc (readN (n + 1) l) = appR (acc ++ [(a, b)]) (readN n l2) := by
  simp only [readN, h1, h2]
  cases readN n l2 with
  | none => rfl
  | some x => obtain ⟨ls, r⟩ := x; simp [appR]

theorem below_of {B : Nat} {s : Value} {w0 w w' : World} (hg : Grew B s w w') (hx : Ext w0 w) (hz : w0.heap.size ≤ B) : Ext w0 w' :=
  Below.trans (B := w0.heap.size) hx ((hg.below w (Below.refl _ _)).mono hz)
theorem read_ok (v : Value) (raw : List UInt8) (w : World) (hv : By w v raw) (hT : Tabs w) :
    Ret Tryd.prog 34 ⟨[v]⟩ w fun r w' => ∃ s, Ext w w' ∧ (match readL raw with
      | none => r = .tuple ⟨[s, .int .i64 8]⟩ ∧ LO w' w.heap.size s []
      | some ls => r = .tuple ⟨[s, .int .i64 0]⟩ ∧ LO w' w.heap.size s ls ∧ ∀ x ∈ ls, LabSz x) := by
  have hbd := hv.bound
  rw [bysC_len] at hbd
  have hbl := bysC_len raw
  refine ret_of_G Tryd.func34 rfl Tryd.ntmps34 rfl ?_
  simp only [argEnv]
  try (first | refine gl tb ?_ | refine gg tb ?_ | refine ll tb ?_ | refine lg tb ?_); repeat ((first | refine G.condT rfl ?_ | refine G.condF rfl ?_ | refine sFa tb ?_ | refine sLd tb ?_ | refine sLa tb ?_ | refine sLen tb ?_ | refine sFd tb ?_ | refine sBd tb ?_ | refine sBa tb ?_); try (first | refine gl tb ?_ | refine gg tb ?_ | refine ll tb ?_ | refine lg tb ?_))
  rw [bysC_len]
  try (first | refine gl tb ?_ | refine gg tb ?_ | refine ll tb ?_ | refine lg tb ?_); repeat ((first | refine G.condT rfl ?_ | refine G.condF rfl ?_ | refine sFa tb ?_ | refine sLd tb ?_ | refine sLa tb ?_ | refine sLen tb ?_ | refine sFd tb ?_ | refine sBd tb ?_ | refine sBa tb ?_); try (first | refine gl tb ?_ | refine gg tb ?_ | refine ll tb ?_ | refine lg tb ?_))
  first | refine G.condD rfl (fun hc => ?_) (fun hc => ?_) | refine G.condN rfl (fun hc => ?_) (fun hc => ?_) | refine G.cond rfl (fun hc => ?_) (fun hc => ?_)
  · obtain rfl : raw = [] := List.eq_nil_of_length_eq_zero (by omega)
    try (first | refine gl tb ?_ | refine gg tb ?_ | refine ll tb ?_ | refine lg tb ?_); repeat ((first | refine G.condT rfl ?_ | refine G.condF rfl ?_ | refine sFa tb ?_ | refine sLd tb ?_ | refine sLa tb ?_ | refine sLen tb ?_ | refine sFd tb ?_ | refine sBd tb ?_ | refine sBa tb ?_); try (first | refine gl tb ?_ | refine gg tb ?_ | refine ll tb ?_ | refine lg tb ?_))
    refine G.ret2 rfl rfl rfl rfl rfl ?_
    exact ⟨_, Ext.refl _, rfl, Owns.nil _ _ _ _⟩
  · obtain ⟨c, r0, rfl⟩ : ∃ c r0, raw = c :: r0 := by
      cases raw with
      | nil => simp at hc
      | cons a r => exact ⟨a, r, rfl⟩
    clear hc
    have hcl := c.toNat_lt
    simp only [List.length_cons] at hbd hbl
    have h0 : (bysC (c :: r0))[0]? = some [U c] := rfl
    try (first | refine gl tb ?_ | refine gg tb ?_ | refine ll tb ?_ | refine lg tb ?_); repeat ((first | refine G.condT rfl ?_ | refine G.condF rfl ?_ | refine sFa tb ?_ | refine sLd tb ?_ | refine sLa tb ?_ | refine sLen tb ?_ | refine sFd tb ?_ | refine sBd tb ?_ | refine sBa tb ?_); try (first | refine gl tb ?_ | refine gg tb ?_ | refine ll tb ?_ | refine lg tb ?_))
    refine sBlo tb 1 hv ?_
    have hsub := By.sub hv (a := 1) (b := (c :: r0).length) (by simp) (Nat.le_refl _)
    have e1 : ((c :: r0).drop 1).take ((c :: r0).length - 1) = r0 := by rw [List.take_of_length_le (by simp)]; rfl
    rw [e1] at hsub
    refine sAl tb ?_
    intro w1 hb1 hs1 hx1
    refine sSt tb ?_ (h1 := hsub.one) (hv := hsub.cells)
    intro w2 hb2 hw2
    have hx2 : Ext w w2 := Below.wr hx1 hw2 (Nat.le_refl _)
    have hs2 := hw2.size
    have hv2 := hv.to hx2
    clear hb1 hx1 hw2
    try (first | refine gl tb ?_ | refine gg tb ?_ | refine ll tb ?_ | refine lg tb ?_); repeat ((first | refine G.condT rfl ?_ | refine G.condF rfl ?_ | refine sFa tb ?_ | refine sLd tb ?_ | refine sLa tb ?_ | refine sLen tb ?_ | refine sFd tb ?_ | refine sBd tb ?_ | refine sBa tb ?_); try (first | refine gl tb ?_ | refine gg tb ?_ | refine ll tb ?_ | refine lg tb ?_))
    refine sIa tb 0 ?_ (hj := fun _ => ⟨rfl, by rw [hbl]; omega⟩)
    try (first | refine gl tb ?_ | refine gg tb ?_ | refine ll tb ?_ | refine lg tb ?_); repeat ((first | refine G.condT rfl ?_ | refine G.condF rfl ?_ | refine sFa tb ?_ | refine sLd tb ?_ | refine sLa tb ?_ | refine sLen tb ?_ | refine sFd tb ?_ | refine sBd tb ?_ | refine sBa tb ?_); try (first | refine gl tb ?_ | refine gg tb ?_ | refine ll tb ?_ | refine lg tb ?_))
    obtain ⟨R, hR⟩ : ∃ R, R = readN c.toNat r0 := ⟨_, rfl⟩
    have hR0 : appR [] (readN (c.toNat - 0) r0) = R := by
      rw [Nat.sub_zero, hR]
      cases readN c.toNat r0 with
      | none => rfl
      | some x => rfl
    refine (G.loop (fun x : Nat × Value => [(4, none, ptr w.heap.size), (5, none, .func (.func 67) #[] ⟨[ptr w.heap.size]⟩), (6, none, x.2), (19, none, U c), (20, none, .int .u8 x.1)])
      (fun x W => x.1 ≤ c.toNat ∧ Ext w W ∧ w.heap.size + 1 ≤ W.heap.size ∧ ∃ l v' acc, By w v' l ∧ Bx W w.heap.size [v'] ∧ LO W (w.heap.size + 1) x.2 acc ∧ acc.length = x.1 ∧ appR acc (readN (c.toNat - x.1) l) = R ∧ ∀ x ∈ acc, LabSz x) (fun x => c.toNat - x.1) (0, .slice none 0 0) (by repeat (first | exact Sub.nil _ | refine Sub.cons rfl ?_))
      ⟨by simp, hx2, by omega, r0, _, [], hsub, hb2, Owns.nil _ _ _ _, rfl, hR0, by simp⟩ ?_)
    clear hx2 hb2 hsub hs1 hs2
    rintro ⟨k, s⟩ W ⟨hk, hx, hz, l, v', acc, hl, hb, ho, hal, hap, hsz⟩
    simp only at hk ho hal hap ⊢
    have hkc : ((c :: r0).length : Int) = r0.length + 1 := by simp
    try (first | refine gl tb ?_ | refine gg tb ?_ | refine ll tb ?_ | refine lg tb ?_); repeat ((first | refine G.condT rfl ?_ | refine G.condF rfl ?_ | refine sFa tb ?_ | refine sLd tb ?_ | refine sLa tb ?_ | refine sLen tb ?_ | refine sFd tb ?_ | refine sBd tb ?_ | refine sBa tb ?_); try (first | refine gl tb ?_ | refine gg tb ?_ | refine ll tb ?_ | refine lg tb ?_))
    show G _ _ (_ :: _) _
    first | refine G.condD rfl (fun hc => ?_) (fun hc => ?_) | refine G.condN rfl (fun hc => ?_) (fun hc => ?_) | refine G.cond rfl (fun hc => ?_) (fun hc => ?_)
    · have hlt : k < c.toNat := by omega
      have hck : c.toNat - k = (c.toNat - (k + 1)) + 1 := by omega
      try (first | refine gl tb ?_ | refine gg tb ?_ | refine ll tb ?_ | refine lg tb ?_); repeat ((first | refine G.condT rfl ?_ | refine G.condF rfl ?_ | refine sFa tb ?_ | refine sLd tb ?_ | refine sLa tb ?_ | refine sLen tb ?_ | refine sFd tb ?_ | refine sBd tb ?_ | refine sBa tb ?_); try (first | refine gl tb ?_ | refine gg tb ?_ | refine ll tb ?_ | refine lg tb ?_))
      refine GL.cons (Step.callC rfl (Op1.of rfl (by first | exact fun _ => rfl | exact fun h => h | exact fun h => bL h | exact fun h => bL (bL h) | exact fun h => bL (bL (bL h)))) rfl rfl c67 rfl (text1_ok w.heap.size v' l w W hl hx hb (Nat.le_refl _)) ?_)
      intro r1 W1 h1
      cases hr1 : readT l with
      | none =>
        rw [hr1] at h1
        obtain ⟨rfl, hz1, hg1, hb1⟩ := h1
        have hR0 : R = none := by rw [← hap, hck, readN, hr1]; rfl
        try (first | refine gl tb ?_ | refine gg tb ?_ | refine ll tb ?_ | refine lg tb ?_); repeat ((first | refine G.condT rfl ?_ | refine G.condF rfl ?_ | refine sFa tb ?_ | refine sLd tb ?_ | refine sLa tb ?_ | refine sLen tb ?_ | refine sFd tb ?_ | refine sBd tb ?_ | refine sBa tb ?_); try (first | refine gl tb ?_ | refine gg tb ?_ | refine ll tb ?_ | refine lg tb ?_))
        refine GL.cons (Step.callC rfl (Op1.of rfl (by first | exact fun _ => rfl | exact fun h => h | exact fun h => bL h | exact fun h => bL (bL h) | exact fun h => bL (bL (bL h)))) rfl rfl c67 rfl (text1_ok w.heap.size v' l w W1 hl (hg1.below _ hx) hb1 (Nat.le_refl _)) ?_)
        intro r2 W2 h2
        rw [hr1] at h2
        obtain ⟨rfl, hz2, hg2, hb2⟩ := h2
        try (first | refine gl tb ?_ | refine gg tb ?_ | refine ll tb ?_ | refine lg tb ?_); repeat ((first | refine G.condT rfl ?_ | refine G.condF rfl ?_ | refine sFa tb ?_ | refine sLd tb ?_ | refine sLa tb ?_ | refine sLen tb ?_ | refine sFd tb ?_ | refine sBd tb ?_ | refine sBa tb ?_); try (first | refine gl tb ?_ | refine gg tb ?_ | refine ll tb ?_ | refine lg tb ?_))
        refine G.ret2 rfl rfl rfl rfl rfl ?_
        refine ⟨.slice none 0 0, hg2.below _ (hg1.below _ hx), ?_⟩
        have : readL (c :: r0) = none := by simp only [readL, ← hR, hR0]
        rw [this]
        exact ⟨rfl, Owns.nil _ _ _ _⟩
      | some x =>
        obtain ⟨a, l1⟩ := x
        rw [hr1] at h1
        obtain ⟨v1, rfl, hl1, hb1, hg1⟩ := h1
        have hx1 := hg1.below _ hx
        try (first | refine gl tb ?_ | refine gg tb ?_ | refine ll tb ?_ | refine lg tb ?_); repeat ((first | refine G.condT rfl ?_ | refine G.condF rfl ?_ | refine sFa tb ?_ | refine sLd tb ?_ | refine sLa tb ?_ | refine sLen tb ?_ | refine sFd tb ?_ | refine sBd tb ?_ | refine sBa tb ?_); try (first | refine gl tb ?_ | refine gg tb ?_ | refine ll tb ?_ | refine lg tb ?_))
        refine GL.cons (Step.callC rfl (Op1.of rfl (by first | exact fun _ => rfl | exact fun h => h | exact fun h => bL h | exact fun h => bL (bL h) | exact fun h => bL (bL (bL h)))) rfl rfl c67 rfl (text1_ok w.heap.size v1 l1 w W1 hl1 hx1 hb1 (Nat.le_refl _)) ?_)
        intro r2 W2 h2
        cases hr2 : readT l1 with
        | none =>
          rw [hr2] at h2
          obtain ⟨rfl, hz2, hg2, hb2⟩ := h2
          have hR0 : R = none := by rw [← hap, hck, readN, hr1]; simp only [hr2]; rfl
          try (first | refine gl tb ?_ | refine gg tb ?_ | refine ll tb ?_ | refine lg tb ?_); repeat ((first | refine G.condT rfl ?_ | refine G.condF rfl ?_ | refine sFa tb ?_ | refine sLd tb ?_ | refine sLa tb ?_ | refine sLen tb ?_ | refine sFd tb ?_ | refine sBd tb ?_ | refine sBa tb ?_); try (first | refine gl tb ?_ | refine gg tb ?_ | refine ll tb ?_ | refine lg tb ?_))
          refine G.ret2 rfl rfl rfl rfl rfl ?_
          refine ⟨.slice none 0 0, hg2.below _ hx1, ?_⟩
          have : readL (c :: r0) = none := by simp only [readL, ← hR, hR0]
          rw [this]
          exact ⟨rfl, Owns.nil _ _ _ _⟩
        | some y =>
          obtain ⟨b, l2⟩ := y
          rw [hr2] at h2
          obtain ⟨v2, rfl, hl2, hb2, hg2⟩ := h2
          have hx2 := hg2.below _ hx1
          have hgg := hg1.trans hg2
          have hne : ∀ q, some q = s.ownBlock → some q ≠ (blk w.heap.size).ownBlock := by
            intro q hq e
            simp only [blk, Value.ownBlock, Option.some.injEq] at e
            exact ho.ne (b := w.heap.size) (by omega) (by rw [← e]; exact hq)
          have ho2 := ho.grew hgg hne
          have hz2 := hgg.size
          have hla := (readT_len hr1).1
          have hlb := (readT_len hr2).1
          rw [hck, appR_step hr1 hr2] at hap
          clear ho hb hb1
          try (first | refine gl tb ?_ | refine gg tb ?_ | refine ll tb ?_ | refine lg tb ?_); repeat ((first | refine G.condT rfl ?_ | refine G.condF rfl ?_ | refine sFa tb ?_ | refine sLd tb ?_ | refine sLa tb ?_ | refine sLen tb ?_ | refine sFd tb ?_ | refine sBd tb ?_ | refine sBa tb ?_); try (first | refine gl tb ?_ | refine gg tb ?_ | refine ll tb ?_ | refine lg tb ?_))
          refine sBs' tb [labC (a, b)] ?_ (hkl := labLen [_])
          intro v5 W5 ho5 hs5 hx5
          refine sApp tb (ho2.to hx5) ho5.sli ?_ (h1 := lab1 [_])
          intro v6 W6 ho6 hg6
          have hb6 := (hb2.to hx5).grew hg6 (ho2.ne (by omega))
          have hx6 : Ext w W6 := below_of hg6 (Ext.trans hx2 hx5) (by omega)
          have hz5 := hx5.size
          have hz6 := hg6.size
          try (first | refine gl tb ?_ | refine gg tb ?_ | refine ll tb ?_ | refine lg tb ?_); repeat ((first | refine G.condT rfl ?_ | refine G.condF rfl ?_ | refine sFa tb ?_ | refine sLd tb ?_ | refine sLa tb ?_ | refine sLen tb ?_ | refine sFd tb ?_ | refine sBd tb ?_ | refine sBa tb ?_); try (first | refine gl tb ?_ | refine gg tb ?_ | refine ll tb ?_ | refine lg tb ?_))
          refine sAr ?_ (hp := by rw [wrap_u8])
          try (first | refine gl tb ?_ | refine gg tb ?_ | refine ll tb ?_ | refine lg tb ?_); repeat ((first | refine G.condT rfl ?_ | refine G.condF rfl ?_ | refine sFa tb ?_ | refine sLd tb ?_ | refine sLa tb ?_ | refine sLen tb ?_ | refine sFd tb ?_ | refine sBd tb ?_ | refine sBa tb ?_); try (first | refine gl tb ?_ | refine gg tb ?_ | refine ll tb ?_ | refine lg tb ?_))
          have hm : ((k : Int) + 1) % 256 = ((k + 1 : Nat) : Int) := by omega
          rw [hm]
          refine G.lp (x := (k, s)) (k + 1, v6) (by repeat (first | exact Sub.nil _ | refine Sub.cons rfl ?_)) ⟨by simp only; omega, hx6, by omega, l2, v2, acc ++ [(a, b)], hl2, hb6, ?_, by simp [hal], hap, ?_⟩ (by simp only; omega)
          · unfold LO; rw [List.map_append]; exact ho6
          · intro x hx
            rcases List.mem_append.1 hx with hx | hx
            · exact hsz x hx
            · simp only [List.mem_cons, List.not_mem_nil, or_false] at hx
              subst hx
              exact ⟨show a.length ≤ _ by omega, show b.length ≤ _ by omega⟩
    · have hke : k = c.toNat := by omega
      subst hke
      rw [Nat.sub_self] at hap
      have hRa : R = some (acc, l) := by rw [← hap]; simp [readN, appR]
      have hll := bysC_len l
      have hl1 := hl.to hx
      have hrl : readL (c :: r0) = if (decide ((0 : Int) < l.length) || !rightB acc) = true then none else some acc := by simp only [readL, ← hR, hRa]
      try (first | refine gl tb ?_ | refine gg tb ?_ | refine ll tb ?_ | refine lg tb ?_); repeat ((first | refine G.condT rfl ?_ | refine G.condF rfl ?_ | refine sFa tb ?_ | refine sLd tb ?_ | refine sLa tb ?_ | refine sLen tb ?_ | refine sFd tb ?_ | refine sBd tb ?_ | refine sBa tb ?_); try (first | refine gl tb ?_ | refine gg tb ?_ | refine ll tb ?_ | refine lg tb ?_))
      rw [bysC_len]
      try (first | refine gl tb ?_ | refine gg tb ?_ | refine ll tb ?_ | refine lg tb ?_); repeat ((first | refine G.condT rfl ?_ | refine G.condF rfl ?_ | refine sFa tb ?_ | refine sLd tb ?_ | refine sLa tb ?_ | refine sLen tb ?_ | refine sFd tb ?_ | refine sBd tb ?_ | refine sBa tb ?_); try (first | refine gl tb ?_ | refine gg tb ?_ | refine ll tb ?_ | refine lg tb ?_))
      refine sCallx c22 (fun hc => lright_ok s acc W ho.sli hsz (hT.to hx)) ?_
      intro W1 hx1
      try (first | refine gl tb ?_ | refine gg tb ?_ | refine ll tb ?_ | refine lg tb ?_); repeat ((first | refine G.condT rfl ?_ | refine G.condF rfl ?_ | refine sFa tb ?_ | refine sLd tb ?_ | refine sLa tb ?_ | refine sLen tb ?_ | refine sFd tb ?_ | refine sBd tb ?_ | refine sBa tb ?_); try (first | refine gl tb ?_ | refine gg tb ?_ | refine ll tb ?_ | refine lg tb ?_))
      first | refine G.condD rfl (fun hc => ?_) (fun hc => ?_) | refine G.condN rfl (fun hc => ?_) (fun hc => ?_) | refine G.cond rfl (fun hc => ?_) (fun hc => ?_)
      · rw [hrl, if_pos hc]
        try (first | refine gl tb ?_ | refine gg tb ?_ | refine ll tb ?_ | refine lg tb ?_); repeat ((first | refine G.condT rfl ?_ | refine G.condF rfl ?_ | refine sFa tb ?_ | refine sLd tb ?_ | refine sLa tb ?_ | refine sLen tb ?_ | refine sFd tb ?_ | refine sBd tb ?_ | refine sBa tb ?_); try (first | refine gl tb ?_ | refine gg tb ?_ | refine ll tb ?_ | refine lg tb ?_))
        refine G.ret2 rfl rfl rfl rfl rfl ?_
        exact ⟨_, hx.trans hx1, rfl, Owns.nil _ _ _ _⟩
      · rw [hrl, if_neg (by rw [hc]; simp)]
        try (first | refine gl tb ?_ | refine gg tb ?_ | refine ll tb ?_ | refine lg tb ?_); repeat ((first | refine G.condT rfl ?_ | refine G.condF rfl ?_ | refine sFa tb ?_ | refine sLd tb ?_ | refine sLa tb ?_ | refine sLen tb ?_ | refine sFd tb ?_ | refine sBd tb ?_ | refine sBa tb ?_); try (first | refine gl tb ?_ | refine gg tb ?_ | refine ll tb ?_ | refine lg tb ?_))
        refine G.ret2 rfl rfl rfl rfl rfl ?_
        exact ⟨_, hx.trans hx1, rfl, (ho.to hx1).mono (by omega), hsz⟩
end Go.Proofs.YtfffblopkaandaaDoor
