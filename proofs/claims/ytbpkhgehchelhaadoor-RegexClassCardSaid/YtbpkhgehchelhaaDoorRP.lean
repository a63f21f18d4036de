/- regex: the steps of a tree, walked; but for repeats. -/
import Derived.Test.YtbpkhgehchelhaaDoorRO
import Derived.Test.YtbpkhgehchelhaaDoorGR1
open Go Go.Vg Go.RowKit Go.Proofs Go.Proofs.YtbpkhgehchelhaaDoor
namespace Go.Proofs.YtbpkhgehchelhaaDoor
set_option linter.unusedSimpArgs false

def MakeC (t : Rx.T) : Prop := ∀ (P Q : Nat → Prop) (w0 w : World) (mb : Nat) (m : Rx.Mk) (v : Value), MkS P Q w0 w mb m → Tr w0 Q t v →
  Ret Tryd.prog 35 ⟨[ptr mb, v]⟩ w fun _ w' => MkS P Q w0 w' mb (Rx.make t m)
def RepeatC (t : Rx.T) (mn : Nat) (mx : Int) (few plus : Bool) : Prop := ∀ (P Q : Nat → Prop) (w0 w : World) (mb : Nat) (m : Rx.Mk) (v : Value), MkS P Q w0 w mb m → Tr w0 Q (.rep mn mx few plus t) v →
  Ret Tryd.prog 58 ⟨[ptr mb, v]⟩ w fun _ w' => MkS P Q w0 w' mb (Rx.repeatP (Rx.make t) mn mx few plus m)
/-- a tree's parts, as they stand at any time -/
theorem Tr.parts {Q : Nat → Prop} {w0 : World} {t : Rx.T} {v : Value} (h : Tr w0 Q t v) :
    ∃ (b : Nat) (sp ks : Value) (us : List Value), v = ptr b ∧ (∀ W, Kq Q w0 W → Bx W b (cellsT sp ks t)) ∧ (∀ W, Kq Q w0 W → Sli W ks 1 (us.map fun u => [u])) ∧ us.length = (kidsT t).length ∧ (∀ (i : Nat) (t' : Rx.T) (u : Value), (kidsT t)[i]? = some t' → us[i]? = some u → Tr w0 Q t' u) ∧ TrB t := by
  cases h with
  | mk b sp ks us hA hbx hs hm hk hl hkids =>
    exact ⟨b, sp, ks, us, rfl, fun W hb => hbx.same (hb.same b hbx.lt hA), fun W hb => (hk.own.same fun g hg e => hb.same g hg (hk.inn g e)).sli, hl, hkids, hm⟩
theorem put_ix (m : Rx.Mk) (k : Rx.K) : (Rx.put m k).2 ≤ m.st.length := by
  unfold Rx.put; split
  · exact Nat.zero_le _
  · exact Nat.le_refl _
theorem kof (Q : Nat → Prop) (w0 : World) (n : Nat) (h : n ≠ 0) : Stp Q w0 (Rx.kOf n) (.pointer none) := .inr ⟨h, rfl⟩

set_option maxRecDepth 100000 in
set_option maxHeartbeats 4000000 in
theorem make_ok (t : Rx.T) (ih : ∀ t' ∈ kidsT t, MakeC t') (hrep : ∀ mn mx few plus t', t = .rep mn mx few plus t' → RepeatC t' mn mx few plus) : MakeC t := by
  intro P Q w0 w mb m v h hT
  obtain ⟨b, sp, ks, us, hv, hbW, hkW, hl, hkids, hB⟩ := hT.parts
  subst hv
  obtain ⟨sv, ps, hbx, hst⟩ := h.ex
  refine ret_of_G Tryd.func35 rfl Tryd.ntmps35 rfl ?_
  simp only [argEnv]
  try (first | refine gl tb ?_ | refine gg tb ?_ | refine ll tb ?_ | refine lg tb ?_); repeat ((first | refine G.condT rfl ?_ | refine G.condF rfl ?_ | refine sFa tb ?_ | refine sLd tb ?_ | refine sLa tb ?_ | refine sLen tb ?_ | refine sFd tb ?_ | refine sBd tb ?_ | refine sBa tb ?_); try (first | refine gl tb ?_ | refine gg tb ?_ | refine ll tb ?_ | refine lg tb ?_))
  first | refine G.condD rfl (fun hc => ?_) (fun hc => ?_) | refine G.condN rfl (fun hc => ?_) (fun hc => ?_) | refine G.cond rfl (fun hc => ?_) (fun hc => ?_)
  · refine G.ret0 rfl rfl rfl ?_
    have hc : m.full = true := hc
    have : Rx.make t m = m := by cases t <;> simp [Rx.make, hc]
    rw [this]
    exact h
  have hf : m.full = false := hc
  have hfn : ¬ m.full = true := by rw [hf]; simp
  cases t with
  | emp =>
    have hm : Rx.make .emp m = m := by rw [Rx.make]
    rw [hm]
    have hb : Bx w b [.int .i64 0, sp, .bool false, .int .i64 0, .int .i64 0, .int .i64 0, .bool false, .bool false, ks] := hbW w h.kt
    try (first | refine gl tb ?_ | refine gg tb ?_ | refine ll tb ?_ | refine lg tb ?_); repeat ((first | refine G.condT rfl ?_ | refine G.condF rfl ?_ | refine sFa tb ?_ | refine sLd tb ?_ | refine sLa tb ?_ | refine sLen tb ?_ | refine sFd tb ?_ | refine sBd tb ?_ | refine sBa tb ?_); try (first | refine gl tb ?_ | refine gg tb ?_ | refine ll tb ?_ | refine lg tb ?_))
    refine G.end0 rfl rfl rfl ?_
    exact h
  | set l neg =>
    have hm : Rx.make (.set l neg) m = (Rx.put m { Rx.kOf 0 with l := l, neg := neg }).1 := by rw [Rx.make, if_neg hfn]
    rw [hm]
    have hb : Bx w b [.int .i64 1, sp, .bool neg, .int .i64 0, .int .i64 0, .int .i64 0, .bool false, .bool false, ks] := hbW w h.kt
    try (first | refine gl tb ?_ | refine gg tb ?_ | refine ll tb ?_ | refine lg tb ?_); repeat ((first | refine G.condT rfl ?_ | refine G.condF rfl ?_ | refine sFa tb ?_ | refine sLd tb ?_ | refine sLa tb ?_ | refine sLen tb ?_ | refine sFd tb ?_ | refine sBd tb ?_ | refine sBa tb ?_); try (first | refine gl tb ?_ | refine gg tb ?_ | refine ll tb ?_ | refine lg tb ?_))
    refine sCall c36 (put_ok w0 w mb m { Rx.kOf 0 with l := l, neg := neg } (ptr b) h (.inl ⟨rfl, hT⟩)) ?_
    rintro _ W1 ⟨_, h1⟩
    try (first | refine gl tb ?_ | refine gg tb ?_ | refine ll tb ?_ | refine lg tb ?_); repeat ((first | refine G.condT rfl ?_ | refine G.condF rfl ?_ | refine sFa tb ?_ | refine sLd tb ?_ | refine sLa tb ?_ | refine sLen tb ?_ | refine sFd tb ?_ | refine sBd tb ?_ | refine sBa tb ?_); try (first | refine gl tb ?_ | refine gg tb ?_ | refine ll tb ?_ | refine lg tb ?_))
    refine G.end0 rfl rfl rfl ?_
    exact h1
  | bos =>
    have hm : Rx.make .bos m = (Rx.put m (Rx.kOf 1)).1 := by rw [Rx.make, if_neg hfn]
    rw [hm]
    have hb : Bx w b [.int .i64 2, sp, .bool false, .int .i64 0, .int .i64 0, .int .i64 0, .bool false, .bool false, ks] := hbW w h.kt
    try (first | refine gl tb ?_ | refine gg tb ?_ | refine ll tb ?_ | refine lg tb ?_); repeat ((first | refine G.condT rfl ?_ | refine G.condF rfl ?_ | refine sFa tb ?_ | refine sLd tb ?_ | refine sLa tb ?_ | refine sLen tb ?_ | refine sFd tb ?_ | refine sBd tb ?_ | refine sBa tb ?_); try (first | refine gl tb ?_ | refine gg tb ?_ | refine ll tb ?_ | refine lg tb ?_))
    refine sCall c36 (put_ok w0 w mb m (Rx.kOf 1) (.pointer none) h (kof _ _ _ (by decide))) ?_
    rintro _ W1 ⟨_, h1⟩
    try (first | refine gl tb ?_ | refine gg tb ?_ | refine ll tb ?_ | refine lg tb ?_); repeat ((first | refine G.condT rfl ?_ | refine G.condF rfl ?_ | refine sFa tb ?_ | refine sLd tb ?_ | refine sLa tb ?_ | refine sLen tb ?_ | refine sFd tb ?_ | refine sBd tb ?_ | refine sBa tb ?_); try (first | refine gl tb ?_ | refine gg tb ?_ | refine ll tb ?_ | refine lg tb ?_))
    refine G.end0 rfl rfl rfl ?_
    exact h1
  | eos =>
    have hm : Rx.make .eos m = (Rx.put m (Rx.kOf 2)).1 := by rw [Rx.make, if_neg hfn]
    rw [hm]
    have hb : Bx w b [.int .i64 3, sp, .bool false, .int .i64 0, .int .i64 0, .int .i64 0, .bool false, .bool false, ks] := hbW w h.kt
    try (first | refine gl tb ?_ | refine gg tb ?_ | refine ll tb ?_ | refine lg tb ?_); repeat ((first | refine G.condT rfl ?_ | refine G.condF rfl ?_ | refine sFa tb ?_ | refine sLd tb ?_ | refine sLa tb ?_ | refine sLen tb ?_ | refine sFd tb ?_ | refine sBd tb ?_ | refine sBa tb ?_); try (first | refine gl tb ?_ | refine gg tb ?_ | refine ll tb ?_ | refine lg tb ?_))
    refine sCall c36 (put_ok w0 w mb m (Rx.kOf 2) (.pointer none) h (kof _ _ _ (by decide))) ?_
    rintro _ W1 ⟨_, h1⟩
    try (first | refine gl tb ?_ | refine gg tb ?_ | refine ll tb ?_ | refine lg tb ?_); repeat ((first | refine G.condT rfl ?_ | refine G.condF rfl ?_ | refine sFa tb ?_ | refine sLd tb ?_ | refine sLa tb ?_ | refine sLen tb ?_ | refine sFd tb ?_ | refine sBd tb ?_ | refine sBa tb ?_); try (first | refine gl tb ?_ | refine gg tb ?_ | refine ll tb ?_ | refine lg tb ?_))
    refine G.end0 rfl rfl rfl ?_
    exact h1
  | grp n t =>
    have hbW : ∀ W, Kq Q w0 W → Bx W b [.int .i64 4, sp, .bool false, .int .i64 n, .int .i64 0, .int .i64 0, .bool false, .bool false, ks] := hbW
    have hn : n ≤ 256 := hB.2.1
    have hl1 : us.length = 1 := hl
    obtain ⟨u, hu⟩ : ∃ u, us[0]? = some u := ⟨_, List.getElem?_eq_getElem (by omega)⟩
    have hTu : Tr w0 Q t u := hkids 0 t u rfl hu
    have hgetu : (us.map fun u => [u])[0]? = some [u] := by rw [List.getElem?_map, hu]; rfl
    have hm0 : Rx.make (.grp n t) m = if n = 0 then Rx.make t m else (Rx.put (Rx.make t (Rx.put m { Rx.kOf 3 with slot := 2 * n }).1) { Rx.kOf 3 with slot := 2 * n + 1 }).1 := by rw [Rx.make, if_neg hfn]
    rw [hm0]
    have hb := hbW w h.kt
    try (first | refine gl tb ?_ | refine gg tb ?_ | refine ll tb ?_ | refine lg tb ?_); repeat ((first | refine G.condT rfl ?_ | refine G.condF rfl ?_ | refine sFa tb ?_ | refine sLd tb ?_ | refine sLa tb ?_ | refine sLen tb ?_ | refine sFd tb ?_ | refine sBd tb ?_ | refine sBa tb ?_); try (first | refine gl tb ?_ | refine gg tb ?_ | refine ll tb ?_ | refine lg tb ?_))
    refine G.join (fun _ : Unit => [(0, none, ptr mb), (1, none, ptr b)]) (fun _ w' => MkS P Q w0 w' mb (if n = 0 then m else (Rx.put m { Rx.kOf 3 with slot := 2 * n }).1)) ?_ ?_
    rotate_left
    · try (first | refine gl tb ?_ | refine gg tb ?_ | refine ll tb ?_ | refine lg tb ?_); repeat ((first | refine G.condT rfl ?_ | refine G.condF rfl ?_ | refine sFa tb ?_ | refine sLd tb ?_ | refine sLa tb ?_ | refine sLen tb ?_ | refine sFd tb ?_ | refine sBd tb ?_ | refine sBa tb ?_); try (first | refine gl tb ?_ | refine gg tb ?_ | refine ll tb ?_ | refine lg tb ?_))
      first | refine G.condD rfl (fun hc => ?_) (fun hc => ?_) | refine G.condN rfl (fun hc => ?_) (fun hc => ?_) | refine G.cond rfl (fun hc => ?_) (fun hc => ?_)
      · try (first | refine gl tb ?_ | refine gg tb ?_ | refine ll tb ?_ | refine lg tb ?_); repeat ((first | refine G.condT rfl ?_ | refine G.condF rfl ?_ | refine sFa tb ?_ | refine sLd tb ?_ | refine sLa tb ?_ | refine sLen tb ?_ | refine sFd tb ?_ | refine sBd tb ?_ | refine sBa tb ?_); try (first | refine gl tb ?_ | refine gg tb ?_ | refine ll tb ?_ | refine lg tb ?_))
        refine sAd tb (r := ((2 * n : Nat) : Int)) ?_ (hp := by show IntKind.i64.wrap _ = _; rw [wrap_i64 (by omega) (by omega)]; omega)
        try (first | refine gl tb ?_ | refine gg tb ?_ | refine ll tb ?_ | refine lg tb ?_); repeat ((first | refine G.condT rfl ?_ | refine G.condF rfl ?_ | refine sFa tb ?_ | refine sLd tb ?_ | refine sLa tb ?_ | refine sLen tb ?_ | refine sFd tb ?_ | refine sBd tb ?_ | refine sBa tb ?_); try (first | refine gl tb ?_ | refine gg tb ?_ | refine ll tb ?_ | refine lg tb ?_))
        refine sCall c36 (put_ok w0 w mb m { Rx.kOf 3 with slot := 2 * n } (.pointer none) h (.inr ⟨by simp [Rx.kOf], rfl⟩)) ?_
        rintro _ W1 ⟨_, h1⟩
        try (first | refine gl tb ?_ | refine gg tb ?_ | refine ll tb ?_ | refine lg tb ?_); repeat ((first | refine G.condT rfl ?_ | refine G.condF rfl ?_ | refine sFa tb ?_ | refine sLd tb ?_ | refine sLa tb ?_ | refine sLen tb ?_ | refine sFd tb ?_ | refine sBd tb ?_ | refine sBa tb ?_); try (first | refine gl tb ?_ | refine gg tb ?_ | refine ll tb ?_ | refine lg tb ?_))
        exact G.met () (by repeat (first | exact Sub.nil _ | refine Sub.cons rfl ?_)) (by rw [if_neg (by omega)]; exact h1)
      · try (first | refine gl tb ?_ | refine gg tb ?_ | refine ll tb ?_ | refine lg tb ?_); repeat ((first | refine G.condT rfl ?_ | refine G.condF rfl ?_ | refine sFa tb ?_ | refine sLd tb ?_ | refine sLa tb ?_ | refine sLen tb ?_ | refine sFd tb ?_ | refine sBd tb ?_ | refine sBa tb ?_); try (first | refine gl tb ?_ | refine gg tb ?_ | refine ll tb ?_ | refine lg tb ?_))
        exact G.met () (by repeat (first | exact Sub.nil _ | refine Sub.cons rfl ?_)) (by rw [if_pos (by omega)]; exact h)
    rintro _ W1 h1
    clear hb
    have hb := hbW W1 h1.kt
    have hk := hkW W1 h1.kt
    try (first | refine gl tb ?_ | refine gg tb ?_ | refine ll tb ?_ | refine lg tb ?_); repeat ((first | refine G.condT rfl ?_ | refine G.condF rfl ?_ | refine sFa tb ?_ | refine sLd tb ?_ | refine sLa tb ?_ | refine sLen tb ?_ | refine sFd tb ?_ | refine sBd tb ?_ | refine sIa tb 0 ?_); try (first | refine gl tb ?_ | refine gg tb ?_ | refine ll tb ?_ | refine lg tb ?_))
    refine sCall c35 (ih t (by simp [kidsT]) P Q w0 W1 mb _ u h1 hTu) ?_
    rintro _ W2 h2
    clear hb hk
    have hb := hbW W2 h2.kt
    try (first | refine gl tb ?_ | refine gg tb ?_ | refine ll tb ?_ | refine lg tb ?_); repeat ((first | refine G.condT rfl ?_ | refine G.condF rfl ?_ | refine sFa tb ?_ | refine sLd tb ?_ | refine sLa tb ?_ | refine sLen tb ?_ | refine sFd tb ?_ | refine sBd tb ?_ | refine sBa tb ?_); try (first | refine gl tb ?_ | refine gg tb ?_ | refine ll tb ?_ | refine lg tb ?_))
    first | refine G.condD rfl (fun hc => ?_) (fun hc => ?_) | refine G.condN rfl (fun hc => ?_) (fun hc => ?_) | refine G.cond rfl (fun hc => ?_) (fun hc => ?_)
    · have hn0 : ¬ n = 0 := by omega
      rw [if_neg hn0] at h2 ⊢
      try (first | refine gl tb ?_ | refine gg tb ?_ | refine ll tb ?_ | refine lg tb ?_); repeat ((first | refine G.condT rfl ?_ | refine G.condF rfl ?_ | refine sFa tb ?_ | refine sLd tb ?_ | refine sLa tb ?_ | refine sLen tb ?_ | refine sFd tb ?_ | refine sBd tb ?_ | refine sBa tb ?_); try (first | refine gl tb ?_ | refine gg tb ?_ | refine ll tb ?_ | refine lg tb ?_))
      refine sAd tb (r := ((2 * n : Nat) : Int)) ?_ (hp := by show IntKind.i64.wrap _ = _; rw [wrap_i64 (by omega) (by omega)]; omega)
      try (first | refine gl tb ?_ | refine gg tb ?_ | refine ll tb ?_ | refine lg tb ?_); repeat ((first | refine G.condT rfl ?_ | refine G.condF rfl ?_ | refine sFa tb ?_ | refine sLd tb ?_ | refine sLa tb ?_ | refine sLen tb ?_ | refine sFd tb ?_ | refine sBd tb ?_ | refine sBa tb ?_); try (first | refine gl tb ?_ | refine gg tb ?_ | refine ll tb ?_ | refine lg tb ?_))
      refine sAd tb (r := ((2 * n + 1 : Nat) : Int)) ?_ (hp := by show IntKind.i64.wrap _ = _; rw [wrap_i64 (by omega) (by omega)]; omega)
      try (first | refine gl tb ?_ | refine gg tb ?_ | refine ll tb ?_ | refine lg tb ?_); repeat ((first | refine G.condT rfl ?_ | refine G.condF rfl ?_ | refine sFa tb ?_ | refine sLd tb ?_ | refine sLa tb ?_ | refine sLen tb ?_ | refine sFd tb ?_ | refine sBd tb ?_ | refine sBa tb ?_); try (first | refine gl tb ?_ | refine gg tb ?_ | refine ll tb ?_ | refine lg tb ?_))
      refine sCall c36 (put_ok w0 W2 mb _ { Rx.kOf 3 with slot := 2 * n + 1 } (.pointer none) h2 (.inr ⟨by simp [Rx.kOf], rfl⟩)) ?_
      rintro _ W3 ⟨_, h3⟩
      try (first | refine gl tb ?_ | refine gg tb ?_ | refine ll tb ?_ | refine lg tb ?_); repeat ((first | refine G.condT rfl ?_ | refine G.condF rfl ?_ | refine sFa tb ?_ | refine sLd tb ?_ | refine sLa tb ?_ | refine sLen tb ?_ | refine sFd tb ?_ | refine sBd tb ?_ | refine sBa tb ?_); try (first | refine gl tb ?_ | refine gg tb ?_ | refine ll tb ?_ | refine lg tb ?_))
      refine G.end0 rfl rfl rfl ?_
      exact h3
    · have hn0 : n = 0 := by omega
      rw [if_pos hn0] at h2 ⊢
      try (first | refine gl tb ?_ | refine gg tb ?_ | refine ll tb ?_ | refine lg tb ?_); repeat ((first | refine G.condT rfl ?_ | refine G.condF rfl ?_ | refine sFa tb ?_ | refine sLd tb ?_ | refine sLa tb ?_ | refine sLen tb ?_ | refine sFd tb ?_ | refine sBd tb ?_ | refine sBa tb ?_); try (first | refine gl tb ?_ | refine gg tb ?_ | refine ll tb ?_ | refine lg tb ?_))
      refine G.end0 rfl rfl rfl ?_
      exact h2
  | seq l =>
    have hbW : ∀ W, Kq Q w0 W → Bx W b [.int .i64 5, sp, .bool false, .int .i64 0, .int .i64 0, .int .i64 0, .bool false, .bool false, ks] := hbW
    have hm0 : Rx.make (.seq l) m = Rx.makeL l m := by rw [Rx.make, if_neg hfn]
    rw [hm0]
    have hb := hbW w h.kt
    have hk := hkW w h.kt
    have hlen : (us.map fun u => [u]).length = l.length := by rw [List.length_map]; exact hl
    try (first | refine gl tb ?_ | refine gg tb ?_ | refine ll tb ?_ | refine lg tb ?_); repeat ((first | refine G.condT rfl ?_ | refine G.condF rfl ?_ | refine sFa tb ?_ | refine sLd tb ?_ | refine sLa tb ?_ | refine sLen tb ?_ | refine sFd tb ?_ | refine sBd tb ?_ | refine sBa tb ?_); try (first | refine gl tb ?_ | refine gg tb ?_ | refine ll tb ?_ | refine lg tb ?_))
    rw [hlen]
    try (first | refine gl tb ?_ | refine gg tb ?_ | refine ll tb ?_ | refine lg tb ?_); repeat ((first | refine G.condT rfl ?_ | refine G.condF rfl ?_ | refine sFa tb ?_ | refine sLd tb ?_ | refine sLa tb ?_ | refine sLen tb ?_ | refine sFd tb ?_ | refine sBd tb ?_ | refine sBa tb ?_); try (first | refine gl tb ?_ | refine gg tb ?_ | refine ll tb ?_ | refine lg tb ?_))
    refine (G.loop (fun p : Nat × Rx.Mk => [(0, none, ptr mb), (74, none, ks), (75, none, .int .i64 l.length), (76, none, .int .i64 p.1)])
      (fun p W => MkS P Q w0 W mb p.2 ∧ p.1 ≤ l.length ∧ Rx.makeL (l.drop p.1) p.2 = Rx.makeL l m) (fun p => l.length - p.1) (0, m) (by repeat (first | exact Sub.nil _ | refine Sub.cons rfl ?_)) ⟨h, Nat.zero_le _, rfl⟩ ?_)
    clear hb hk
    rintro ⟨k, m1⟩ W1 ⟨h1, hkl, hL⟩
    simp only at h1 hkl hL ⊢
    have hk := hkW W1 h1.kt
    have hlb := hk.bound
    rw [hlen] at hlb
    try (first | refine gl tb ?_ | refine gg tb ?_ | refine ll tb ?_ | refine lg tb ?_); repeat ((first | refine G.condT rfl ?_ | refine G.condF rfl ?_ | refine sFa tb ?_ | refine sLd tb ?_ | refine sLa tb ?_ | refine sLen tb ?_ | refine sFd tb ?_ | refine sBd tb ?_ | refine sBa tb ?_); try (first | refine gl tb ?_ | refine gg tb ?_ | refine ll tb ?_ | refine lg tb ?_))
    first | refine G.condD rfl (fun hc => ?_) (fun hc => ?_) | refine G.condN rfl (fun hc => ?_) (fun hc => ?_) | refine G.cond rfl (fun hc => ?_) (fun hc => ?_)
    · have hlt : k < l.length := by omega
      obtain ⟨u, hu⟩ : ∃ u, us[k]? = some u := ⟨_, List.getElem?_eq_getElem (by rw [hl]; exact hlt)⟩
      have hget : (us.map fun u => [u])[k]? = some [u] := by rw [List.getElem?_map, hu]; rfl
      have hTu := hkids k l[k] u (List.getElem?_eq_getElem hlt) hu
      rw [List.drop_eq_getElem_cons hlt, Rx.makeL] at hL
      try (first | refine gl tb ?_ | refine gg tb ?_ | refine ll tb ?_ | refine lg tb ?_); repeat ((first | refine G.condT rfl ?_ | refine G.condF rfl ?_ | refine sFa tb ?_ | refine sLd tb ?_ | refine sLa tb ?_ | refine sLen tb ?_ | refine sFd tb ?_ | refine sBd tb ?_ | refine sIa tb k ?_); try (first | refine gl tb ?_ | refine gg tb ?_ | refine ll tb ?_ | refine lg tb ?_))
      refine sCall c35 (ih l[k] (List.getElem_mem hlt) P Q w0 W1 mb m1 u h1 hTu) ?_
      rintro _ W2 h2
      try (first | refine gl tb ?_ | refine gg tb ?_ | refine ll tb ?_ | refine lg tb ?_); repeat ((first | refine G.condT rfl ?_ | refine G.condF rfl ?_ | refine sFa tb ?_ | refine sLd tb ?_ | refine sLa tb ?_ | refine sLen tb ?_ | refine sFd tb ?_ | refine sBd tb ?_ | refine sBa tb ?_); try (first | refine gl tb ?_ | refine gg tb ?_ | refine ll tb ?_ | refine lg tb ?_))
      refine sAd tb (r := ((k + 1 : Nat) : Int)) ?_
      try (first | refine gl tb ?_ | refine gg tb ?_ | refine ll tb ?_ | refine lg tb ?_); repeat ((first | refine G.condT rfl ?_ | refine G.condF rfl ?_ | refine sFa tb ?_ | refine sLd tb ?_ | refine sLa tb ?_ | refine sLen tb ?_ | refine sFd tb ?_ | refine sBd tb ?_ | refine sBa tb ?_); try (first | refine gl tb ?_ | refine gg tb ?_ | refine ll tb ?_ | refine lg tb ?_))
      exact G.lp (x := (k, m1)) (k + 1, Rx.make l[k] m1) (by repeat (first | exact Sub.nil _ | refine Sub.cons rfl ?_)) ⟨h2, by simp only; omega, hL⟩ (by simp only; omega)
    · have hke : k = l.length := by omega
      subst hke
      rw [List.drop_length, Rx.makeL] at hL
      rw [← hL]
      try (first | refine gl tb ?_ | refine gg tb ?_ | refine ll tb ?_ | refine lg tb ?_); repeat ((first | refine G.condT rfl ?_ | refine G.condF rfl ?_ | refine sFa tb ?_ | refine sLd tb ?_ | refine sLa tb ?_ | refine sLen tb ?_ | refine sFd tb ?_ | refine sBd tb ?_ | refine sBa tb ?_); try (first | refine gl tb ?_ | refine gg tb ?_ | refine ll tb ?_ | refine lg tb ?_))
      refine G.end0 rfl rfl rfl ?_
      exact h1
  | alt ta tc =>
    have hbW : ∀ W, Kq Q w0 W → Bx W b [.int .i64 6, sp, .bool false, .int .i64 0, .int .i64 0, .int .i64 0, .bool false, .bool false, ks] := hbW
    have hl2 : us.length = 2 := hl
    obtain ⟨ua, hua⟩ : ∃ u, us[0]? = some u := ⟨_, List.getElem?_eq_getElem (by omega)⟩
    obtain ⟨uc, huc⟩ : ∃ u, us[1]? = some u := ⟨_, List.getElem?_eq_getElem (by omega)⟩
    have hTa : Tr w0 Q ta ua := hkids 0 ta ua rfl hua
    have hTc : Tr w0 Q tc uc := hkids 1 tc uc rfl huc
    have hg0 : (us.map fun u => [u])[0]? = some [ua] := by rw [List.getElem?_map, hua]; rfl
    have hg1 : (us.map fun u => [u])[1]? = some [uc] := by rw [List.getElem?_map, huc]; rfl
    rw [Rx.make, if_neg hfn]
    simp only
    have hb := hbW w h.kt
    try (first | refine gl tb ?_ | refine gg tb ?_ | refine ll tb ?_ | refine lg tb ?_); repeat ((first | refine G.condT rfl ?_ | refine G.condF rfl ?_ | refine sFa tb ?_ | refine sLd tb ?_ | refine sLa tb ?_ | refine sLen tb ?_ | refine sFd tb ?_ | refine sBd tb ?_ | refine sBa tb ?_); try (first | refine gl tb ?_ | refine gg tb ?_ | refine ll tb ?_ | refine lg tb ?_))
    refine sCall c36 (put_ok w0 w mb m (Rx.kOf 4) (.pointer none) h (kof _ _ _ (by decide))) ?_
    rintro _ W1 ⟨rfl, h1⟩
    clear hb hbx
    have hb := hbW W1 h1.kt
    have hk := hkW W1 h1.kt
    have hp1 := Rx.put_gr m (Rx.kOf 4)
    have hi1u := put_ix m (Rx.kOf 4)
    have hle0 := h.le
    have ha1 := @Rx.put_at m (Rx.kOf 4)
    generalize Rx.put m (Rx.kOf 4) = r1 at h1 hp1 ha1 hi1u ⊢
    obtain ⟨m1, i1⟩ := r1
    simp only at h1 hp1 ha1 hi1u ⊢
    try (first | refine gl tb ?_ | refine gg tb ?_ | refine ll tb ?_ | refine lg tb ?_); repeat ((first | refine G.condT rfl ?_ | refine G.condF rfl ?_ | refine sFa tb ?_ | refine sLd tb ?_ | refine sLa tb ?_ | refine sLen tb ?_ | refine sFd tb ?_ | refine sBd tb ?_ | refine sIa tb 0 ?_); try (first | refine gl tb ?_ | refine gg tb ?_ | refine ll tb ?_ | refine lg tb ?_))
    refine sCall c35 (ih ta (by simp [kidsT]) P Q w0 W1 mb m1 ua h1 hTa) ?_
    rintro _ W2 h2
    clear hb hk
    have hp2 := Rx.make_gr ta m1
    generalize Rx.make ta m1 = m2 at h2 hp2 ⊢
    try (first | refine gl tb ?_ | refine gg tb ?_ | refine ll tb ?_ | refine lg tb ?_); repeat ((first | refine G.condT rfl ?_ | refine G.condF rfl ?_ | refine sFa tb ?_ | refine sLd tb ?_ | refine sLa tb ?_ | refine sLen tb ?_ | refine sFd tb ?_ | refine sBd tb ?_ | refine sBa tb ?_); try (first | refine gl tb ?_ | refine gg tb ?_ | refine ll tb ?_ | refine lg tb ?_))
    refine sCall c36 (put_ok w0 W2 mb m2 (Rx.kOf 5) (.pointer none) h2 (kof _ _ _ (by decide))) ?_
    rintro _ W3 ⟨rfl, h3⟩
    have hp3 := Rx.put_gr m2 (Rx.kOf 5)
    have hi3u := put_ix m2 (Rx.kOf 5)
    have hle2 := h2.le
    have ha3 := @Rx.put_at m2 (Rx.kOf 5)
    generalize Rx.put m2 (Rx.kOf 5) = r3 at h3 hp3 ha3 hi3u ⊢
    obtain ⟨m3, i3⟩ := r3
    simp only at h3 hp3 ha3 hi3u ⊢
    have hi1 : m3.full = false → i1 < m3.st.length := fun hf3 => by
      have h2f := hp3.ok hf3
      have h1f := hp2.ok h2f
      have := ha1 h1f
      have := hp2.1
      have := hp3.1
      omega
    obtain ⟨v3, ps3, hbx3, hst3⟩ := h3.ex
    have hvs3 := hst3.ow.sli
    have hzl3 := hst3.zl
    have hle3 := h3.le
    try (first | refine gl tb ?_ | refine gg tb ?_ | refine ll tb ?_ | refine lg tb ?_); repeat ((first | refine G.condT rfl ?_ | refine G.condF rfl ?_ | refine sFa tb ?_ | refine sLd tb ?_ | refine sLa tb ?_ | refine sLen tb ?_ | refine sFd tb ?_ | refine sBd tb ?_ | refine sBa tb ?_); try (first | refine gl tb ?_ | refine gg tb ?_ | refine ll tb ?_ | refine lg tb ?_))
    refine sAd tb (r := ((i1 + 1 : Nat) : Int)) ?_ (hp := by rw [wrap_i64 (by omega) (by omega)]; omega)
    try (first | refine gl tb ?_ | refine gg tb ?_ | refine ll tb ?_ | refine lg tb ?_); repeat ((first | refine G.condT rfl ?_ | refine G.condF rfl ?_ | refine sFa tb ?_ | refine sLd tb ?_ | refine sLa tb ?_ | refine sLen tb ?_ | refine sFd tb ?_ | refine sBd tb ?_ | refine sBa tb ?_); try (first | refine gl tb ?_ | refine gg tb ?_ | refine ll tb ?_ | refine lg tb ?_))
    rw [hzl3]
    try (first | refine gl tb ?_ | refine gg tb ?_ | refine ll tb ?_ | refine lg tb ?_); repeat ((first | refine G.condT rfl ?_ | refine G.condF rfl ?_ | refine sFa tb ?_ | refine sLd tb ?_ | refine sLa tb ?_ | refine sLen tb ?_ | refine sFd tb ?_ | refine sBd tb ?_ | refine sBa tb ?_); try (first | refine gl tb ?_ | refine gg tb ?_ | refine ll tb ?_ | refine lg tb ?_))
    refine sCall c57 (fork_ok w0 W3 mb m3 i1 (i1 + 1) m3.st.length false h3 hi1) ?_
    rintro _ W4 h4
    have hf4 := Rx.fork_full m3 i1 (i1 + 1) m3.st.length false
    have hl4 := Rx.fork_len m3 i1 (i1 + 1) m3.st.length false
    generalize Rx.fork m3 i1 (i1 + 1) m3.st.length false = m4 at h4 hf4 hl4 ⊢
    have hb := hbW W4 h4.kt
    have hk := hkW W4 h4.kt
    try (first | refine gl tb ?_ | refine gg tb ?_ | refine ll tb ?_ | refine lg tb ?_); repeat ((first | refine G.condT rfl ?_ | refine G.condF rfl ?_ | refine sFa tb ?_ | refine sLd tb ?_ | refine sLa tb ?_ | refine sLen tb ?_ | refine sFd tb ?_ | refine sBd tb ?_ | refine sIa tb 1 ?_); try (first | refine gl tb ?_ | refine gg tb ?_ | refine ll tb ?_ | refine lg tb ?_))
    refine sCall c35 (ih tc (by simp [kidsT]) P Q w0 W4 mb m4 uc h4 hTc) ?_
    rintro _ W5 h5
    have hp5 := Rx.make_gr tc m4
    generalize Rx.make tc m4 = m5 at h5 hp5 ⊢
    obtain ⟨v5, ps5, hbx5, hst5⟩ := h5.ex
    have hvs5 := hst5.ow.sli
    have hzl5 := hst5.zl
    have hle5 := h5.le
    clear hb hk hbx3
    try (first | refine gl tb ?_ | refine gg tb ?_ | refine ll tb ?_ | refine lg tb ?_); repeat ((first | refine G.condT rfl ?_ | refine G.condF rfl ?_ | refine sFa tb ?_ | refine sLd tb ?_ | refine sLa tb ?_ | refine sLen tb ?_ | refine sFd tb ?_ | refine sBd tb ?_ | refine sBa tb ?_); try (first | refine gl tb ?_ | refine gg tb ?_ | refine ll tb ?_ | refine lg tb ?_))
    first | refine G.condD rfl (fun hc => ?_) (fun hc => ?_) | refine G.condN rfl (fun hc => ?_) (fun hc => ?_) | refine G.cond rfl (fun hc => ?_) (fun hc => ?_)
    · have hf5 : m5.full = false := by simpa using hc
      have hi3 : i3 < m5.st.length := by
        have h4f := hp5.ok hf5
        have := ha3 (by rw [← hf4]; exact h4f)
        have := hp5.1
        omega
      obtain ⟨kk, hkk⟩ : ∃ k, m5.st[i3]? = some k := ⟨_, List.getElem?_eq_getElem hi3⟩
      obtain ⟨p, hp⟩ : ∃ p, ps5[i3]? = some p := ⟨_, List.getElem?_eq_getElem (by rw [hst5.len]; exact hi3)⟩
      have hxd := Ext.drew W5
      have hod := hst5.ow.to hxd
      have hbd := hbx5.to hxd
      have hne : some mb ≠ v5.ownBlock := fun e => by have := (hst5.ow.lt mb e.symm).1; omega
      have hget : (List.zipWith stC m5.st ps5)[i3]? = some (stC kk p) := by rw [List.getElem?_zipWith, hkk, hp]
      try (first | refine gl tb ?_ | refine gg tb ?_ | refine ll tb ?_ | refine lg tb ?_); repeat ((first | refine G.condT rfl ?_ | refine G.condF rfl ?_ | refine sFa tb ?_ | refine sLd tb ?_ | refine sLa tb ?_ | refine sLen tb ?_ | refine sFd tb ?_ | refine sBd tb ?_ | refine sBa tb ?_); try (first | refine gl tb ?_ | refine gg tb ?_ | refine ll tb ?_ | refine lg tb ?_))
      refine G.regionM [(0, true), (1, true), (2, true), (3, true), (4, true), (5, true), (6, true), (7, true), (8, true), (9, true), (10, true), (11, true), (12, false)] (fun w' => Bx w' mb [v5, .bool m5.full]) (by kernel_rfl) (by kernel_rfl) rfl mixed (hbd) rfl ?_
      try (refine mm tb ?_); repeat ((first | refine dFa tb ?_ | refine dLd tb ?_ | refine dLa tb ?_ | refine dLen tb ?_ | refine dFd tb ?_); try (refine mm tb ?_))
      refine dLd tb (u := v5) ?_ (hc := fun w' hS _ => Bx.c0 hS (by exact rfl))
      try (refine mm tb ?_); repeat ((first | refine dFa tb ?_ | refine dLd tb ?_ | refine dLa tb ?_ | refine dLen tb ?_ | refine dFd tb ?_); try (refine mm tb ?_))
      refine dLd tb (u := v5) ?_ (hc := fun w' hS _ => Bx.c0 hS (by exact rfl))
      try (refine mm tb ?_); repeat ((first | refine dFa tb ?_ | refine dLd tb ?_ | refine dLa tb ?_ | refine dLen tb ?_ | refine dFd tb ?_); try (refine mm tb ?_))
      refine dIa tb i3 ?_ (hj := fun _ => ⟨rfl, by rw [hzl5]; exact hi3⟩)
      try (refine mm tb ?_); repeat ((first | refine dFa tb ?_ | refine dLd tb ?_ | refine dLa tb ?_ | refine dLen tb ?_ | refine dFd tb ?_); try (refine mm tb ?_))
      refine GM.eff (Step.storeRowF tb (j := i3) (off := 3) rfl (Op1.of rfl (by first | exact fun _ => rfl | exact fun h => h | exact fun h => bL h | exact fun h => bL (bL h) | exact fun h => bL (bL (bL h)))) (Op1.of rfl (by first | exact fun _ => rfl | exact fun h => h | exact fun h => bL h | exact fun h => bL (bL h) | exact fun h => bL (bL (bL h)))) rfl rfl rfl hod (by rw [hzl5]; exact hi3) (by decide) ?_)
      intro W6 ho6 hg6
      have hb6 := hbd.grew hg6 hne
      refine ⟨hb6, ?_⟩
      have e1 : ((List.zipWith stC m5.st ps5).getD i3 []).set 3 (.int .i64 (List.zipWith stC m5.st ps5).length) = stC { kk with a := m5.st.length } p := by rw [stC_getD hkk hp, hzl5]; rfl
      rw [e1, zip_set hp] at ho6
      refine GM.nil ?_
      have hm6 : Rx.jumpTo m5 i3 = ⟨m5.st.set i3 { kk with a := m5.st.length }, m5.full⟩ := by
        unfold Rx.jumpTo Rx.setA
        rw [hf5, hkk]; rfl
      rw [hm6]
      refine G.end0 rfl rfl rfl ?_
      refine ⟨?_, h5.pl, h5.sub, h5.np, ⟨v5, ps5, hb6, ho6, by rw [List.length_set]; exact hst5.len, fun j k' p' g1 g2 => ?_, hst5.np⟩, by simp only [List.length_set]; exact hle5⟩
      · exact (h5.kq.trans hxd.kq).trans (hg6.kq hst5.np)
      · by_cases hj : i3 = j
        · subst hj
          rw [List.getElem?_set] at g1
          simp only [if_true, hi3, Option.some.injEq] at g1
          subst g1
          exact hst5.tr i3 kk p' hkk g2
        · rw [List.getElem?_set_ne hj] at g1
          exact hst5.tr j k' p' g1 g2
    · have hf5 : m5.full = true := by simpa using hc
      have hm6 : Rx.jumpTo m5 i3 = m5 := by unfold Rx.jumpTo; rw [if_pos hf5]
      rw [hm6]
      try (first | refine gl tb ?_ | refine gg tb ?_ | refine ll tb ?_ | refine lg tb ?_); repeat ((first | refine G.condT rfl ?_ | refine G.condF rfl ?_ | refine sFa tb ?_ | refine sLd tb ?_ | refine sLa tb ?_ | refine sLen tb ?_ | refine sFd tb ?_ | refine sBd tb ?_ | refine sBa tb ?_); try (first | refine gl tb ?_ | refine gg tb ?_ | refine ll tb ?_ | refine lg tb ?_))
      refine G.end0 rfl rfl rfl ?_
      exact h5
  | rep mn mx few plus t' =>
    have hbW : ∀ W, Kq Q w0 W → Bx W b [.int .i64 7, sp, .bool false, .int .i64 0, .int .i64 mn, .int .i64 mx, .bool few, .bool plus, ks] := hbW
    rw [Rx.make, if_neg hfn]
    have hb := hbW w h.kt
    try (first | refine gl tb ?_ | refine gg tb ?_ | refine ll tb ?_ | refine lg tb ?_); repeat ((first | refine G.condT rfl ?_ | refine G.condF rfl ?_ | refine sFa tb ?_ | refine sLd tb ?_ | refine sLa tb ?_ | refine sLen tb ?_ | refine sFd tb ?_ | refine sBd tb ?_ | refine sBa tb ?_); try (first | refine gl tb ?_ | refine gg tb ?_ | refine ll tb ?_ | refine lg tb ?_))
    refine sCall c58 (hrep mn mx few plus t' rfl P Q w0 w mb m (ptr b) h hT) ?_
    rintro _ W1 h1
    try (first | refine gl tb ?_ | refine gg tb ?_ | refine ll tb ?_ | refine lg tb ?_); repeat ((first | refine G.condT rfl ?_ | refine G.condF rfl ?_ | refine sFa tb ?_ | refine sLd tb ?_ | refine sLa tb ?_ | refine sLen tb ?_ | refine sFd tb ?_ | refine sBd tb ?_ | refine sBa tb ?_); try (first | refine gl tb ?_ | refine gg tb ?_ | refine ll tb ?_ | refine lg tb ?_))
    refine G.end0 rfl rfl rfl ?_
    exact h1
end Go.Proofs.YtbpkhgehchelhaaDoor
