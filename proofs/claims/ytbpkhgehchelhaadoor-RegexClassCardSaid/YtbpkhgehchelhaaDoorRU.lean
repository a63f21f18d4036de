/- regex: Match, Groups, Count, Size; wakes. -/
import Derived.Test.YtbpkhgehchelhaaDoorRT
import Derived.Test.YtbpkhgehchelhaaDoorGR1
import Derived.Test.YtbpkhgehchelhaaDoorGV3
open Go Go.Vg Go.RowKit Go.Proofs Go.Proofs.YtbpkhgehchelhaaDoor
namespace Go.Proofs.YtbpkhgehchelhaaDoor
set_option linter.unusedSimpArgs false

/-- a compiled expression in memory -/
structure Exp (w : World) (pb : Nat) (t : Rx.T) (g : Nat) : Prop where
  pr : ∃ A, PrS w A pb (Rx.progT t) g
  num : Rx.numOk g t
  g : g ≤ 256
theorem Exp.to {w w' : World} {pb : Nat} {t : Rx.T} {g : Nat} (h : Exp w pb t g) (hx : Ext w w') : Exp w' pb t g := by
  obtain ⟨⟨A, hp⟩, hn, hg⟩ := h
  exact ⟨⟨A, hp.to hx⟩, hn, hg⟩

/-- what Compile tells -/
def ComS (s : List UInt8) (w : World) (r : Value) (w' : World) : Prop :=
  Ext w w' ∧ ((∃ t g pb, Rx.comp s = .ok (t, g) ∧ Exp w' pb t g ∧ r = .tuple ⟨[ptr pb, .int .i64 0, .int .i64 0]⟩) ∨
    (∃ e f, Rx.comp s = .error (e, f) ∧ r = .tuple ⟨[.pointer none, .int .i64 (e : Nat), .int .i64 (if f = 1 then 8 else 9)]⟩))
theorem comp_ok (w : World) (s : List UInt8) (hT : Tabs w) (hl : s.length ≤ 9223372036854775807) : Ret Tryd.prog 11 ⟨[S s]⟩ w (ComS s w) :=
  Calls.mono (compile_ok w s hT hl) fun r w' ⟨v, e, h⟩ => ⟨v, e, by
    obtain ⟨hx, h⟩ := h
    refine ⟨hx, ?_⟩
    have he := Rx.comp_eq s
    rcases h with ⟨st, g, pb, h1, h2, h3⟩ | ⟨e, f, h1, h2⟩
    · left
      rcases hc : Rx.comp s with e | ⟨t, g'⟩
      · rw [hc, h1] at he; cases he
      · rw [hc, h1] at he
        simp only [Except.ok.injEq, Prod.mk.injEq] at he
        obtain ⟨rfl, rfl⟩ := he
        obtain ⟨hr, hl, _⟩ := Rx.comp_ok hc
        have hn := Rx.readP_num hr
        exact ⟨t, g, pb, rfl, ⟨⟨_, h2⟩, hn.1, by omega⟩, h3⟩
    · right
      rcases hc : Rx.comp s with e' | ⟨t, g'⟩
      · rw [hc, h1] at he
        simp only [Except.error.injEq] at he
        exact ⟨e, f, by rw [← he], h2⟩
      · rw [hc, h1] at he; cases he⟩

theorem match_ok (w : World) (pb : Nat) (t : Rx.T) (g : Nat) (text : List UInt8) (hT : Tabs w) (hE : Exp w pb t g) (ht : text.length ≤ 100000) :
    Ret Tryd.prog 18 ⟨[ptr pb, S text]⟩ w fun r w' => r = .bool (Rx.mt t g text) ∧ Ext w w' := by
  obtain ⟨⟨A, hP⟩, hn, hg⟩ := hE
  refine ret_of_G Tryd.func18 rfl Tryd.ntmps18 rfl ?_
  simp only [argEnv]
  try (first | refine gl tb ?_ | refine gg tb ?_ | refine ll tb ?_ | refine lg tb ?_); repeat ((first | refine G.condT rfl ?_ | refine G.condF rfl ?_ | refine sFa tb ?_ | refine sLd tb ?_ | refine sLa tb ?_ | refine sLen tb ?_ | refine sFd tb ?_ | refine sBd tb ?_ | refine sBa tb ?_); try (first | refine gl tb ?_ | refine gg tb ?_ | refine ll tb ?_ | refine lg tb ?_))
  refine sCall c40 (run_ok w A pb (Rx.progT t) g text hT hP (Rx.wf_prog hn) hg ht) ?_
  rintro _ W ⟨hx, ⟨hr, rfl⟩ | ⟨l, v, hr, ho, rfl⟩⟩
  · try (first | refine gl tb ?_ | refine gg tb ?_ | refine ll tb ?_ | refine lg tb ?_); repeat ((first | refine G.condT rfl ?_ | refine G.condF rfl ?_ | refine sFa tb ?_ | refine sLd tb ?_ | refine sLa tb ?_ | refine sLen tb ?_ | refine sFd tb ?_ | refine sBd tb ?_ | refine sBa tb ?_); try (first | refine gl tb ?_ | refine gg tb ?_ | refine ll tb ?_ | refine lg tb ?_))
    refine G.ret1 rfl rfl rfl rfl ?_
    refine ⟨?_, hx⟩
    unfold Rx.mt; rw [hr]; rfl
  · try (first | refine gl tb ?_ | refine gg tb ?_ | refine ll tb ?_ | refine lg tb ?_); repeat ((first | refine G.condT rfl ?_ | refine G.condF rfl ?_ | refine sFa tb ?_ | refine sLd tb ?_ | refine sLa tb ?_ | refine sLen tb ?_ | refine sFd tb ?_ | refine sBd tb ?_ | refine sBa tb ?_); try (first | refine gl tb ?_ | refine gg tb ?_ | refine ll tb ?_ | refine lg tb ?_))
    refine G.ret1 rfl rfl rfl rfl ?_
    refine ⟨?_, hx⟩
    unfold Rx.mt; rw [hr]; rfl
theorem countP_ok (w : World) (pb : Nat) (t : Rx.T) (g : Nat) (hE : Exp w pb t g) :
    Ret Tryd.prog 24 ⟨[ptr pb]⟩ w fun r w' => r = .int .i64 g ∧ Ext w w' := by
  obtain ⟨⟨A, ⟨-, ⟨v, ps, hbx, -, -, -, -⟩, -⟩⟩, hn, hg⟩ := hE
  refine ret_of_G Tryd.func24 rfl Tryd.ntmps24 rfl ?_
  simp only [argEnv]
  try (first | refine gl tb ?_ | refine gg tb ?_ | refine ll tb ?_ | refine lg tb ?_); repeat ((first | refine G.condT rfl ?_ | refine G.condF rfl ?_ | refine sFa tb ?_ | refine sLd tb ?_ | refine sLa tb ?_ | refine sLen tb ?_ | refine sFd tb ?_ | refine sBd tb ?_ | refine sBa tb ?_); try (first | refine gl tb ?_ | refine gg tb ?_ | refine ll tb ?_ | refine lg tb ?_))
  refine G.ret1 rfl rfl rfl rfl ?_
  exact ⟨rfl, Ext.refl _⟩
theorem sizeP_ok (w : World) (pb : Nat) (t : Rx.T) (g : Nat) (hE : Exp w pb t g) :
    Ret Tryd.prog 25 ⟨[ptr pb]⟩ w fun r w' => r = .int .i64 ((Rx.sizeT t + 1 : Nat) : Int) ∧ Ext w w' := by
  obtain ⟨⟨A, ⟨-, ⟨v, ps, hbx, hso, -, hpl, -⟩, -⟩⟩, hn, hg⟩ := hE
  have hvs := hso.sli
  refine ret_of_G Tryd.func25 rfl Tryd.ntmps25 rfl ?_
  simp only [argEnv]
  try (first | refine gl tb ?_ | refine gg tb ?_ | refine ll tb ?_ | refine lg tb ?_); repeat ((first | refine G.condT rfl ?_ | refine G.condF rfl ?_ | refine sFa tb ?_ | refine sLd tb ?_ | refine sLa tb ?_ | refine sLen tb ?_ | refine sFd tb ?_ | refine sBd tb ?_ | refine sBa tb ?_); try (first | refine gl tb ?_ | refine gg tb ?_ | refine ll tb ?_ | refine lg tb ?_))
  refine G.ret1 rfl rfl rfl rfl ?_
  refine ⟨?_, Ext.refl _⟩
  rw [List.length_zipWith, hpl, Nat.min_self, Rx.progT_len]

/-- what Groups tells -/
def GrpS (w : World) (t : Rx.T) (g : Nat) (text : List UInt8) (r : Value) (w' : World) : Prop :=
  Ext w w' ∧ ((Rx.groupsP (Rx.progT t) g text = none ∧ r = .tuple ⟨[nilV, .bool false]⟩) ∨ ∃ l v, Rx.groupsP (Rx.progT t) g text = some l ∧ Owns w' w.heap.size v 3 1 (l.map inC) ∧ r = .tuple ⟨[v, .bool true]⟩)
/-- the first k pairs looked at -/
def noEndK : Nat → List Int → List Int
  | 0, l => l
  | k + 1, x :: y :: l => (if y < 0 then -1 else x) :: y :: noEndK k l
  | _, l => l
theorem noEndK_all : ∀ (k : Nat) (l : List Int), l.length ≤ 2 * k + 1 → noEndK k l = Rx.noEnd l
  | 0, [], _ => rfl
  | 0, [_], _ => rfl
  | 0, _ :: _ :: _, h => by simp at h
  | k + 1, [], _ => rfl
  | k + 1, [_], _ => rfl
  | k + 1, x :: y :: l, h => by
    simp only [List.length_cons] at h
    rw [noEndK, Rx.noEnd, noEndK_all k l (by omega)]
theorem noEndK_len : ∀ (k : Nat) (l : List Int), (noEndK k l).length = l.length
  | 0, l => rfl
  | k + 1, [] => rfl
  | k + 1, [_] => rfl
  | k + 1, x :: y :: l => by simp [noEndK, noEndK_len k l]
theorem noEndK_step : ∀ (k : Nat) (l : List Int), 2 * k + 2 ≤ l.length → (noEndK k l).getD (2 * k + 1) 0 = l.getD (2 * k + 1) 0 ∧
    noEndK (k + 1) l = if l.getD (2 * k + 1) 0 < 0 then (noEndK k l).set (2 * k) (-1) else noEndK k l
  | 0, [], h => by simp at h
  | 0, [_], h => by simp at h
  | 0, x :: y :: l, h => by
    refine ⟨rfl, ?_⟩
    show noEndK 1 (x :: y :: l) = if y < 0 then (x :: y :: l).set 0 (-1) else x :: y :: l
    by_cases hy : y < 0
    · rw [if_pos hy]; simp [noEndK, hy]
    · rw [if_neg hy]; simp [noEndK, hy]
  | k + 1, [], h => by simp at h
  | k + 1, [_], h => by simp at h
  | k + 1, x :: y :: l, h => by
    simp only [List.length_cons] at h
    obtain ⟨h1, h2⟩ := noEndK_step k l (by omega)
    have e1 : ∀ z : List Int, (x :: y :: z).getD (2 * (k + 1) + 1) 0 = z.getD (2 * k + 1) 0 := fun z => by rw [show 2 * (k + 1) + 1 = (2 * k + 1) + 2 by omega]; rfl
    refine ⟨?_, ?_⟩
    · rw [e1, noEndK, show 2 * (k + 1) + 1 = (2 * k + 1) + 2 by omega]
      exact h1
    · rw [e1]
      have e3 : ∀ k, noEndK (k + 1) (x :: y :: l) = (if y < 0 then -1 else x) :: y :: noEndK k l := fun k => rfl
      rw [e3, e3, h2]
      by_cases hz : l.getD (2 * k + 1) 0 < 0
      · rw [if_pos hz, if_pos hz, show 2 * (k + 1) = 2 * k + 1 + 1 by omega]; rfl
      · rw [if_neg hz, if_neg hz]
set_option maxHeartbeats 4000000 in
theorem groups_ok (w : World) (pb : Nat) (t : Rx.T) (g : Nat) (text : List UInt8) (hT : Tabs w) (hE : Exp w pb t g) (ht : text.length ≤ 100000) :
    Ret Tryd.prog 15 ⟨[ptr pb, S text]⟩ w (GrpS w t g text) := by
  obtain ⟨⟨A, hP⟩, hn, hg⟩ := hE
  refine ret_of_G Tryd.func15 rfl Tryd.ntmps15 rfl ?_
  simp only [argEnv]
  try (first | refine gl tb ?_ | refine gg tb ?_ | refine ll tb ?_ | refine lg tb ?_); repeat ((first | refine G.condT rfl ?_ | refine G.condF rfl ?_ | refine sFa tb ?_ | refine sLd tb ?_ | refine sLa tb ?_ | refine sLen tb ?_ | refine sFd tb ?_ | refine sBd tb ?_ | refine sBa tb ?_); try (first | refine gl tb ?_ | refine gg tb ?_ | refine ll tb ?_ | refine lg tb ?_))
  refine sCall c40 (run_ok w A pb (Rx.progT t) g text hT hP (Rx.wf_prog hn) hg ht) ?_
  rintro _ W ⟨hx, ⟨hr, rfl⟩ | ⟨l, v, hr, ho, rfl⟩⟩
  · try (first | refine gl tb ?_ | refine gg tb ?_ | refine ll tb ?_ | refine lg tb ?_); repeat ((first | refine G.condT rfl ?_ | refine G.condF rfl ?_ | refine sFa tb ?_ | refine sLd tb ?_ | refine sLa tb ?_ | refine sLen tb ?_ | refine sFd tb ?_ | refine sBd tb ?_ | refine sBa tb ?_); try (first | refine gl tb ?_ | refine gg tb ?_ | refine ll tb ?_ | refine lg tb ?_))
    refine G.ret2 rfl rfl rfl rfl rfl ?_
    refine ⟨hx, .inl ⟨?_, rfl⟩⟩
    unfold Rx.groupsP; rw [hr]; rfl
  · have hll := Rx.runP_len (Rx.wf_prog hn) hr
    try (first | refine gl tb ?_ | refine gg tb ?_ | refine ll tb ?_ | refine lg tb ?_); repeat ((first | refine G.condT rfl ?_ | refine G.condF rfl ?_ | refine sFa tb ?_ | refine sLd tb ?_ | refine sLa tb ?_ | refine sLen tb ?_ | refine sFd tb ?_ | refine sBd tb ?_ | refine sBa tb ?_); try (first | refine gl tb ?_ | refine gg tb ?_ | refine ll tb ?_ | refine lg tb ?_))
    refine (G.loop (fun k : Nat => [(6, none, v), (8, none, .int .i64 ((2 * k : Nat) : Int))]) (fun k W => Ext w W ∧ Owns W w.heap.size v 3 1 ((noEndK k l).map inC) ∧ k ≤ g + 1) (fun k => g + 1 - k) 0 (by repeat (first | exact Sub.nil _ | refine Sub.cons rfl ?_)) ⟨hx, ho, Nat.zero_le _⟩ ?_)
    clear ho hx
    rintro k W ⟨hx, ho, hk⟩
    have hsl := ho.sli
    have hkl : ((noEndK k l).map inC).length = 2 * g + 2 := by rw [List.length_map, noEndK_len, hll]
    try (first | refine gl tb ?_ | refine gg tb ?_ | refine ll tb ?_ | refine lg tb ?_); repeat ((first | refine G.condT rfl ?_ | refine G.condF rfl ?_ | refine sFa tb ?_ | refine sLd tb ?_ | refine sLa tb ?_ | refine sLen tb ?_ | refine sFd tb ?_ | refine sBd tb ?_ | refine sBa tb ?_); try (first | refine gl tb ?_ | refine gg tb ?_ | refine ll tb ?_ | refine lg tb ?_))
    rw [hkl]
    try (first | refine gl tb ?_ | refine gg tb ?_ | refine ll tb ?_ | refine lg tb ?_); repeat ((first | refine G.condT rfl ?_ | refine G.condF rfl ?_ | refine sFa tb ?_ | refine sLd tb ?_ | refine sLa tb ?_ | refine sLen tb ?_ | refine sFd tb ?_ | refine sBd tb ?_ | refine sBa tb ?_); try (first | refine gl tb ?_ | refine gg tb ?_ | refine ll tb ?_ | refine lg tb ?_))
    first | refine G.condD rfl (fun hc => ?_) (fun hc => ?_) | refine G.condN rfl (fun hc => ?_) (fun hc => ?_) | refine G.cond rfl (fun hc => ?_) (fun hc => ?_)
    · have hlt : 2 * k + 2 ≤ l.length := by omega
      obtain ⟨h1, h2⟩ := noEndK_step k l hlt
      have hget : ((noEndK k l).map inC)[2 * k + 1]? = some [.int .i64 (l.getD (2 * k + 1) 0)] := by
        rw [← h1, List.getElem?_map, List.getD_eq_getElem?_getD, List.getElem?_eq_getElem (by rw [noEndK_len]; omega)]; rfl
      try (first | refine gl tb ?_ | refine gg tb ?_ | refine ll tb ?_ | refine lg tb ?_); repeat ((first | refine G.condT rfl ?_ | refine G.condF rfl ?_ | refine sFa tb ?_ | refine sLd tb ?_ | refine sLa tb ?_ | refine sLen tb ?_ | refine sFd tb ?_ | refine sBd tb ?_ | refine sBa tb ?_); try (first | refine gl tb ?_ | refine gg tb ?_ | refine ll tb ?_ | refine lg tb ?_))
      refine sAd tb (r := ((2 * k + 1 : Nat) : Int)) ?_
      try (first | refine gl tb ?_ | refine gg tb ?_ | refine ll tb ?_ | refine lg tb ?_); repeat ((first | refine G.condT rfl ?_ | refine G.condF rfl ?_ | refine sFa tb ?_ | refine sLd tb ?_ | refine sLa tb ?_ | refine sLen tb ?_ | refine sFd tb ?_ | refine sBd tb ?_ | refine sBa tb ?_); try (first | refine gl tb ?_ | refine gg tb ?_ | refine ll tb ?_ | refine lg tb ?_))
      refine sIa tb (2 * k + 1) ?_ (hj := fun _ => ⟨rfl, by rw [hkl]; omega⟩)
      try (first | refine gl tb ?_ | refine gg tb ?_ | refine ll tb ?_ | refine lg tb ?_); repeat ((first | refine G.condT rfl ?_ | refine G.condF rfl ?_ | refine sFa tb ?_ | refine sLd tb ?_ | refine sLa tb ?_ | refine sLen tb ?_ | refine sFd tb ?_ | refine sBd tb ?_ | refine sBa tb ?_); try (first | refine gl tb ?_ | refine gg tb ?_ | refine ll tb ?_ | refine lg tb ?_))
      first | refine G.condD rfl (fun hc => ?_) (fun hc => ?_) | refine G.condN rfl (fun hc => ?_) (fun hc => ?_) | refine G.cond rfl (fun hc => ?_) (fun hc => ?_)
      · have hneg : l.getD (2 * k + 1) 0 < 0 := by simpa using hc
        rw [if_pos hneg] at h2
        try (first | refine gl tb ?_ | refine gg tb ?_ | refine ll tb ?_ | refine lg tb ?_); repeat ((first | refine G.condT rfl ?_ | refine G.condF rfl ?_ | refine sFa tb ?_ | refine sLd tb ?_ | refine sLa tb ?_ | refine sLen tb ?_ | refine sFd tb ?_ | refine sBd tb ?_ | refine sBa tb ?_); try (first | refine gl tb ?_ | refine gg tb ?_ | refine ll tb ?_ | refine lg tb ?_))
        refine sIa tb (2 * k) ?_ (hj := fun _ => ⟨rfl, by rw [hkl]; omega⟩)
        try (first | refine gl tb ?_ | refine gg tb ?_ | refine ll tb ?_ | refine lg tb ?_); repeat ((first | refine G.condT rfl ?_ | refine G.condF rfl ?_ | refine sFa tb ?_ | refine sLd tb ?_ | refine sLa tb ?_ | refine sLen tb ?_ | refine sFd tb ?_ | refine sBd tb ?_ | refine sBa tb ?_); try (first | refine gl tb ?_ | refine gg tb ?_ | refine ll tb ?_ | refine lg tb ?_))
        refine sStR tb (j := 2 * k) (vs := [.int .i64 (-1)]) ho (by rw [hkl]; omega) (fun W2 ho2 hg2 => ?_)
        try (first | refine gl tb ?_ | refine gg tb ?_ | refine ll tb ?_ | refine lg tb ?_); repeat ((first | refine G.condT rfl ?_ | refine G.condF rfl ?_ | refine sFa tb ?_ | refine sLd tb ?_ | refine sLa tb ?_ | refine sLen tb ?_ | refine sFd tb ?_ | refine sBd tb ?_ | refine sBa tb ?_); try (first | refine gl tb ?_ | refine gg tb ?_ | refine ll tb ?_ | refine lg tb ?_))
        refine sAd tb (r := ((2 * (k + 1) : Nat) : Int)) ?_
        try (first | refine gl tb ?_ | refine gg tb ?_ | refine ll tb ?_ | refine lg tb ?_); repeat ((first | refine G.condT rfl ?_ | refine G.condF rfl ?_ | refine sFa tb ?_ | refine sLd tb ?_ | refine sLa tb ?_ | refine sLen tb ?_ | refine sFd tb ?_ | refine sBd tb ?_ | refine sBa tb ?_); try (first | refine gl tb ?_ | refine gg tb ?_ | refine ll tb ?_ | refine lg tb ?_))
        refine G.lp (x := k) (k + 1) (by repeat (first | exact Sub.nil _ | refine Sub.cons rfl ?_)) ⟨hg2.ext0 hx, ?_, by omega⟩ (by omega)
        rw [h2, List.map_set]
        exact ho2
      · have hneg : ¬ l.getD (2 * k + 1) 0 < 0 := by simpa using hc
        rw [if_neg hneg] at h2
        try (first | refine gl tb ?_ | refine gg tb ?_ | refine ll tb ?_ | refine lg tb ?_); repeat ((first | refine G.condT rfl ?_ | refine G.condF rfl ?_ | refine sFa tb ?_ | refine sLd tb ?_ | refine sLa tb ?_ | refine sLen tb ?_ | refine sFd tb ?_ | refine sBd tb ?_ | refine sBa tb ?_); try (first | refine gl tb ?_ | refine gg tb ?_ | refine ll tb ?_ | refine lg tb ?_))
        refine sAd tb (r := ((2 * (k + 1) : Nat) : Int)) ?_
        try (first | refine gl tb ?_ | refine gg tb ?_ | refine ll tb ?_ | refine lg tb ?_); repeat ((first | refine G.condT rfl ?_ | refine G.condF rfl ?_ | refine sFa tb ?_ | refine sLd tb ?_ | refine sLa tb ?_ | refine sLen tb ?_ | refine sFd tb ?_ | refine sBd tb ?_ | refine sBa tb ?_); try (first | refine gl tb ?_ | refine gg tb ?_ | refine ll tb ?_ | refine lg tb ?_))
        refine G.lp (x := k) (k + 1) (by repeat (first | exact Sub.nil _ | refine Sub.cons rfl ?_)) ⟨hx, ?_, by omega⟩ (by omega)
        rw [h2]
        exact ho
    · have hke : g + 1 ≤ k := by omega
      try (first | refine gl tb ?_ | refine gg tb ?_ | refine ll tb ?_ | refine lg tb ?_); repeat ((first | refine G.condT rfl ?_ | refine G.condF rfl ?_ | refine sFa tb ?_ | refine sLd tb ?_ | refine sLa tb ?_ | refine sLen tb ?_ | refine sFd tb ?_ | refine sBd tb ?_ | refine sBa tb ?_); try (first | refine gl tb ?_ | refine gg tb ?_ | refine ll tb ?_ | refine lg tb ?_))
      refine G.ret2 rfl rfl rfl rfl rfl ?_
      refine ⟨hx, .inr ⟨Rx.noEnd l, v, ?_, ?_, rfl⟩⟩
      · unfold Rx.groupsP; rw [hr]; rfl
      · rw [← noEndK_all k l (by omega)]; exact ho
end Go.Proofs.YtbpkhgehchelhaaDoor
