/- The law of parameters, walked. -/
import Derived.Test.YtlaingmhdgpkdaaDoorWU
import Derived.Test.YtlaingmhdgpkdaaDoorGV2
open Go Go.Vg Go.RowKit Go.Proofs Go.Proofs.YtlaingmhdgpkdaaDoor
namespace Go.Proofs.YtlaingmhdgpkdaaDoor
set_option linter.unusedSimpArgs false

theorem within_ok (n m : Int) (w : World) (hm : 1 ≤ m) (hm2 : m ≤ 9223372036854775807) : Ret Tryd.prog 7 ⟨[.int .i64 n, .int .i64 m]⟩ w fun r w' => r = .int .i64 (n % m) ∧ w' = w := by
  have h1 := Int.tmod_eq_emod (a := n) (b := m)
  have h2 := Int.emod_nonneg n (b := m) (by omega)
  have h3 := Int.emod_lt_of_pos n (b := m) (by omega)
  obtain ⟨r, hr⟩ : ∃ r, r = n.tmod m := ⟨_, rfl⟩
  have hr1 : r < 0 → r + m = n % m := by
    intro h; rw [← hr] at h1; split at h1 <;> omega
  have hr2 : ¬ r < 0 → r = n % m := by
    intro h; rw [← hr] at h1; split at h1 <;> omega
  refine ret_of_G Tryd.func7 rfl Tryd.ntmps7 rfl ?_
  simp only [argEnv]
  try (first | refine gl tb ?_ | refine gg tb ?_ | refine ll tb ?_ | refine lg tb ?_); repeat ((first | refine G.condT rfl ?_ | refine G.condF rfl ?_ | refine sFa tb ?_ | refine sLd tb ?_ | refine sLa tb ?_ | refine sLen tb ?_ | refine sFd tb ?_ | refine sBd tb ?_ | refine sBa tb ?_); try (first | refine gl tb ?_ | refine gg tb ?_ | refine ll tb ?_ | refine lg tb ?_))
  refine sRem hr.symm ?_
  try (first | refine gl tb ?_ | refine gg tb ?_ | refine ll tb ?_ | refine lg tb ?_); repeat ((first | refine G.condT rfl ?_ | refine G.condF rfl ?_ | refine sFa tb ?_ | refine sLd tb ?_ | refine sLa tb ?_ | refine sLen tb ?_ | refine sFd tb ?_ | refine sBd tb ?_ | refine sBa tb ?_); try (first | refine gl tb ?_ | refine gg tb ?_ | refine ll tb ?_ | refine lg tb ?_))
  first | refine G.condD rfl (fun hc => ?_) (fun hc => ?_) | refine G.condN rfl (fun hc => ?_) (fun hc => ?_) | refine G.cond rfl (fun hc => ?_) (fun hc => ?_)
  · try (first | refine gl tb ?_ | refine gg tb ?_ | refine ll tb ?_ | refine lg tb ?_); repeat ((first | refine G.condT rfl ?_ | refine G.condF rfl ?_ | refine sFa tb ?_ | refine sLd tb ?_ | refine sLa tb ?_ | refine sLen tb ?_ | refine sFd tb ?_ | refine sBd tb ?_ | refine sBa tb ?_); try (first | refine gl tb ?_ | refine gg tb ?_ | refine ll tb ?_ | refine lg tb ?_))
    have := hr1 hc
    refine sAd tb ?_
    try (first | refine gl tb ?_ | refine gg tb ?_ | refine ll tb ?_ | refine lg tb ?_); repeat ((first | refine G.condT rfl ?_ | refine G.condF rfl ?_ | refine sFa tb ?_ | refine sLd tb ?_ | refine sLa tb ?_ | refine sLen tb ?_ | refine sFd tb ?_ | refine sBd tb ?_ | refine sBa tb ?_); try (first | refine gl tb ?_ | refine gg tb ?_ | refine ll tb ?_ | refine lg tb ?_))
    refine G.ret1 rfl rfl rfl rfl ?_
    exact ⟨by rw [this], rfl⟩
  · try (first | refine gl tb ?_ | refine gg tb ?_ | refine ll tb ?_ | refine lg tb ?_); repeat ((first | refine G.condT rfl ?_ | refine G.condF rfl ?_ | refine sFa tb ?_ | refine sLd tb ?_ | refine sLa tb ?_ | refine sLen tb ?_ | refine sFd tb ?_ | refine sBd tb ?_ | refine sBa tb ?_); try (first | refine gl tb ?_ | refine gg tb ?_ | refine ll tb ?_ | refine lg tb ?_))
    refine G.ret1 rfl rfl rfl rfl ?_
    exact ⟨by rw [hr2 hc], rfl⟩

def decO (plus : Bool) (s : List UInt8) : List UInt8 × Int := match decP plus s with
  | some o => (o, 0)
  | none => ([], 8)
def parO (s : List UInt8) : List Lab × Int := match paramsL (piecesL s [38]) with
  | some ls => (ls, 0)
  | none => ([], 8)
theorem decode_o (s : List UInt8) (plus : Bool) (w : World) (hs : s.length ≤ 100000000) :
    Ret Tryd.prog 12 ⟨[S s, .bool plus]⟩ w fun r w' => r = .tuple ⟨[S (decO plus s).1, .int .i64 (decO plus s).2]⟩ ∧ Ext w w' :=
  Ret.mono (decode_ok s plus w hs) fun r w' ⟨h, hx⟩ => ⟨by rw [h]; unfold decO; cases decP plus s <;> rfl, hx⟩
theorem refDecode_o (s : List UInt8) (plus : Bool) (w : World) (hs : s.length ≤ 100000000) :
    Ret Tryd.prog 13 ⟨[S s, .bool plus]⟩ w fun r w' => r = .tuple ⟨[S (decO plus s).1, .int .i64 (decO plus s).2]⟩ ∧ Ext w w' :=
  Ret.mono (refDecode_ok s plus w hs) fun r w' ⟨h, hx⟩ => ⟨by rw [h]; unfold decO; cases decP plus s <;> rfl, hx⟩
theorem parO_of {s : List UInt8} {r : Value} {w w' : World} (h : match paramsL (piecesL s [38]) with
      | some ls => ∃ v, r = .tuple ⟨[v, .int .i64 0]⟩ ∧ LO w' w.heap.size v ls
      | none => r = .tuple ⟨[.slice none 0 0, .int .i64 8]⟩) : ∃ v, r = .tuple ⟨[v, .int .i64 (parO s).2]⟩ ∧ Labs w' v (parO s).1 := by
  unfold parO
  cases hp : paramsL (piecesL s [38]) with
  | none => rw [hp] at h; exact ⟨_, h, Sli.nil _ _⟩
  | some ls => rw [hp] at h; obtain ⟨v, h1, h2⟩ := h; exact ⟨v, h1, h2.sli⟩
theorem parO_bd (s : List UInt8) : (parO s).1.length ≤ s.length + 1 := by
  unfold parO
  cases hp : paramsL (piecesL s [38]) with
  | none => simp
  | some ls =>
    have := (paramsL_bd (L := s.length) _ _ (fun p hq => piecesL_len hq) hp).1
    have := piecesL_cnt s [38]
    simp only; omega

theorem params_law (s0 : List UInt8) (plus : Bool) (names : List (List UInt8)) (stop : Int) (v : Value) (w : World) (hs : s0.length ≤ 9223372036854775807) (hv : Strs w v names) (hn : ∀ p ∈ names, p.length ≤ 9223372036854775807) (hM : MaxC w) (hT : Tabs w) :
    Ret Tryd.prog 4 ⟨[.agg ⟨[S s0, .bool plus, v, .int .i64 stop]⟩]⟩ w fun r w' => r = .bool true ∧ Ext w w' := by
  obtain ⟨va, vc, hve, -⟩ := hv.len
  rw [List.length_map] at hve
  subst hve
  have hvb := hv.bound
  rw [List.length_map] at hvb
  refine ret_of_GM Tryd.func4 rfl Tryd.ntmps4 rfl ?_
  simp only [argEnv]
  try (first | refine gl tb ?_ | refine gg tb ?_ | refine ll tb ?_ | refine lg tb ?_); repeat ((first | refine G.condT rfl ?_ | refine G.condF rfl ?_ | refine sFa tb ?_ | refine sLd tb ?_ | refine sLa tb ?_ | refine sLen tb ?_ | refine sFd tb ?_ | refine sBd tb ?_ | refine sBa tb ?_); try (first | refine gl tb ?_ | refine gg tb ?_ | refine ll tb ?_ | refine lg tb ?_))
  refine sBox ?_
  intro w1 hb1 hs1 hx1
  refine sAl tb ?_
  intro w2 hb2 hs2 hx2
  have hb1 := hb1.to hx2
  have hx02 := hx1.trans hx2
  try (first | refine gl tb ?_ | refine gg tb ?_ | refine ll tb ?_ | refine lg tb ?_); repeat ((first | refine G.condT rfl ?_ | refine G.condF rfl ?_ | refine sFa tb ?_ | refine sLd tb ?_ | refine sLa tb ?_ | refine sLen tb ?_ | refine sFd tb ?_ | refine sBd tb ?_ | refine sBa tb ?_); try (first | refine gl tb ?_ | refine gg tb ?_ | refine ll tb ?_ | refine lg tb ?_))
  refine G.regionG (Ext w2) mixed (Ext.drew w2) ?_
  have hx0 := Ext.drew w2
  generalize w2.drew = w3 at hx0 ⊢
  refine GD.join [9, 2, 8, 7, 6, 5, 4, 3, 1, 0] (fun b6 : Nat => [(1, none, ptr w.heap.size), (2, none, ptr w1.heap.size), (24, none, S (s0.take 1500)), (6, none, ptr b6), (26, none, .bool plus), (28, none, .slice va names.length vc), (30, none, .int .i64 stop)])
    (fun b6 W => Ext w2 W ∧ w2.heap.size ≤ b6 ∧ Bx W b6 [.int .i64 0]) ?_ (fun jn => ?_)
  · rintro b6 W ⟨hxW, hb6z, hb6⟩
    refine GD.steps ([(10, true), (11, true), (12, true), (13, false)]) (by kernel_rfl) (by kernel_rfl) rfl ?_
    try (refine mm tb ?_); repeat ((first | refine dFa tb ?_ | refine dLd tb ?_ | refine dLa tb ?_ | refine dLen tb ?_ | refine dFd tb ?_); try (refine mm tb ?_))
    refine GM.eff (Step.store0 tb rfl (Op1.of rfl (by first | exact fun _ => rfl | exact fun h => h | exact fun h => bL h | exact fun h => bL (bL h) | exact fun h => bL (bL (bL h)))) (Op1.of rfl (by first | exact fun _ => rfl | exact fun h => h | exact fun h => bL h | exact fun h => bL (bL h) | exact fun h => bL (bL (bL h)))) rfl (rfl) rfl (by simp [Value.oneCell']) hb6 rfl ?_)
    intro W1 hb6 hw1
    have hx21 : Ext w2 W1 := Below.wr hxW hw1 hb6z
    refine ⟨hx21, ?_⟩
    refine GM.nil ?_
    refine GD.done (by kernel_rfl) ?_
    have hx01 := hx02.trans hx21
    have hsl : (s0.take 1500).length ≤ 1500 := by rw [List.length_take]; omega
    generalize s0.take 1500 = s at hsl ⊢
    have hb2 := hb2.to hx21
    have hb6l := hb6.lt
    have hb2l := hb2.lt
    clear hb1 hxW hw1
    try (first | refine gl tb ?_ | refine gg tb ?_ | refine ll tb ?_ | refine lg tb ?_); repeat ((first | refine G.condT rfl ?_ | refine G.condF rfl ?_ | refine sFa tb ?_ | refine sLd tb ?_ | refine sLa tb ?_ | refine sLen tb ?_ | refine sFd tb ?_ | refine sBd tb ?_ | refine sBa tb ?_); try (first | refine gl tb ?_ | refine gg tb ?_ | refine ll tb ?_ | refine lg tb ?_))
    refine sCall c12 (decode_o s plus W1 (by omega)) ?_
    rintro _ W2 ⟨rfl, hxa⟩
    try (first | refine gl tb ?_ | refine gg tb ?_ | refine ll tb ?_ | refine lg tb ?_); repeat ((first | refine G.condT rfl ?_ | refine G.condF rfl ?_ | refine sFa tb ?_ | refine sLd tb ?_ | refine sLa tb ?_ | refine sLen tb ?_ | refine sFd tb ?_ | refine sBd tb ?_ | refine sBa tb ?_); try (first | refine gl tb ?_ | refine gg tb ?_ | refine ll tb ?_ | refine lg tb ?_))
    refine sCall c13 (refDecode_o s plus W2 (by omega)) ?_
    rintro _ W3 ⟨rfl, hxb⟩
    have hxa := hxa.trans hxb
    try (first | refine gl tb ?_ | refine gg tb ?_ | refine ll tb ?_ | refine lg tb ?_); repeat ((first | refine G.condT rfl ?_ | refine G.condF rfl ?_ | refine sFa tb ?_ | refine sLd tb ?_ | refine sLa tb ?_ | refine sLen tb ?_ | refine sFd tb ?_ | refine sBd tb ?_ | refine sBa tb ?_); try (first | refine gl tb ?_ | refine gg tb ?_ | refine ll tb ?_ | refine lg tb ?_))
    refine sCall c14 (params_ok s W3 (by omega) (hM.to (hx01.trans hxa))) ?_
    rintro _ W4 ⟨hxc, hr⟩
    obtain ⟨u, rfl, hu⟩ := parO_of hr
    have hxa := hxa.trans hxc
    try (first | refine gl tb ?_ | refine gg tb ?_ | refine ll tb ?_ | refine lg tb ?_); repeat ((first | refine G.condT rfl ?_ | refine G.condF rfl ?_ | refine sFa tb ?_ | refine sLd tb ?_ | refine sLa tb ?_ | refine sLen tb ?_ | refine sFd tb ?_ | refine sBd tb ?_ | refine sBa tb ?_); try (first | refine gl tb ?_ | refine gg tb ?_ | refine ll tb ?_ | refine lg tb ?_))
    refine sCall c15 (refParams_ok s W4 (by omega)) ?_
    rintro _ W5 ⟨hxd, hr⟩
    obtain ⟨u2, rfl, hu2⟩ := parO_of hr
    have hxa := hxa.trans hxd
    have hu := hu.to hxd
    have hpb := parO_bd s
    obtain ⟨ua, uc, hue, -⟩ := hu2.len
    rw [List.length_map] at hue
    subst hue
    generalize decO plus s = dd
    generalize parO s = pp at hu hu2 hpb ⊢
    obtain ⟨ls, pe⟩ := pp
    simp only at hu hu2 hpb ⊢
    clear hxb hxc hxd hr
    try (first | refine gl tb ?_ | refine gg tb ?_ | refine ll tb ?_ | refine lg tb ?_); repeat ((first | refine G.condT rfl ?_ | refine G.condF rfl ?_ | refine sFa tb ?_ | refine sLd tb ?_ | refine sLa tb ?_ | refine sLen tb ?_ | refine sFd tb ?_ | refine sBd tb ?_ | refine sBa tb ?_); try (first | refine gl tb ?_ | refine gg tb ?_ | refine ll tb ?_ | refine lg tb ?_))
    refine sCallx (vs := [u, .slice ua ls.length uc]) c16 (fun _ => keepLabels_ok u (.slice ua ls.length uc) ls ls W5 hu hu2) ?_
    intro W6 hxe
    have hxa := hxa.trans hxe
    have hu2 := hu2.to hxe
    try (first | refine gl tb ?_ | refine gg tb ?_ | refine ll tb ?_ | refine lg tb ?_); repeat ((first | refine G.condT rfl ?_ | refine G.condF rfl ?_ | refine sFa tb ?_ | refine sLd tb ?_ | refine sLa tb ?_ | refine sLen tb ?_ | refine sFd tb ?_ | refine sBd tb ?_ | refine sBa tb ?_); try (first | refine gl tb ?_ | refine gg tb ?_ | refine ll tb ?_ | refine lg tb ?_))
    first | refine G.condD rfl (fun hc => ?_) (fun hc => ?_) | refine G.condN rfl (fun hc => ?_) (fun hc => ?_) | refine G.cond rfl (fun hc => ?_) (fun hc => ?_)
    · exfalso
      simp [eqN] at hc
    · clear hc hu
      try (first | refine gl tb ?_ | refine gg tb ?_ | refine ll tb ?_ | refine lg tb ?_); repeat ((first | refine G.condT rfl ?_ | refine G.condF rfl ?_ | refine sFa tb ?_ | refine sLd tb ?_ | refine sLa tb ?_ | refine sLen tb ?_ | refine sFd tb ?_ | refine sBd tb ?_ | refine sBa tb ?_); try (first | refine gl tb ?_ | refine gg tb ?_ | refine ll tb ?_ | refine lg tb ?_))
      refine sAl tb ?_
      intro W7 hb15 hs7 hx7
      refine sSt tb ?_ (vs := reqC [] [] (.slice ua ls.length uc)) (hv := rfl) (hb := hb15) (h1 := by
        have := hu2.one
        simp only [reqC, List.mem_cons, List.not_mem_nil, or_false]
        rintro x (rfl | rfl | rfl)
        · rfl
        · rfl
        · exact this _ (by simp))
      intro W8 hb15 hw8
      have hx68 : Ext W6 W8 := Below.wr hx7 hw8 (Nat.le_refl _)
      have hu8 := hu2.to hx68
      have hxa := hxa.trans hx68
      have hx08 := hx01.trans hxa
      have hb2 := hb2.to hxa
      have hb6 := hb6.to hxa
      have hv8 := hv.to hx08
      obtain ⟨b15, hb15e⟩ : ∃ b15, b15 = W6.heap.size := ⟨_, rfl⟩
      rw [← hb15e] at hb15 ⊢
      clear hxe hx7 hw8 hx68 hu2 hxa hb15e hx21
      try (first | refine gl tb ?_ | refine gg tb ?_ | refine ll tb ?_ | refine lg tb ?_); repeat ((first | refine G.condT rfl ?_ | refine G.condF rfl ?_ | refine sFa tb ?_ | refine sLd tb ?_ | refine sLa tb ?_ | refine sLen tb ?_ | refine sFd tb ?_ | refine sBd tb ?_ | refine sBa tb ?_); try (first | refine gl tb ?_ | refine gg tb ?_ | refine ll tb ?_ | refine lg tb ?_))
      refine (G.loop (fun k : Nat => [(2, none, ptr w1.heap.size), (3, none, S s), (5, none, .slice va names.length vc), (6, none, ptr b6), (15, none, ptr b15), (16, none, .int .i64 k)]) (fun k W => Ext W8 W ∧ k ≤ names.length) (fun k => names.length - k) 0 (by repeat (first | exact Sub.nil _ | refine Sub.cons rfl ?_)) ⟨Ext.refl _, by omega⟩ ?_)
      rintro k W9 ⟨hx89, hk⟩
      have hv9 := hv8.to hx89
      have hb159 := hb15.to hx89
      have hu9 := hu8.to hx89
      try (first | refine gl tb ?_ | refine gg tb ?_ | refine ll tb ?_ | refine lg tb ?_); repeat ((first | refine G.condT rfl ?_ | refine G.condF rfl ?_ | refine sFa tb ?_ | refine sLd tb ?_ | refine sLa tb ?_ | refine sLen tb ?_ | refine sFd tb ?_ | refine sBd tb ?_ | refine sBa tb ?_); try (first | refine gl tb ?_ | refine gg tb ?_ | refine ll tb ?_ | refine lg tb ?_))
      rw [List.length_map]
      try (first | refine gl tb ?_ | refine gg tb ?_ | refine ll tb ?_ | refine lg tb ?_); repeat ((first | refine G.condT rfl ?_ | refine G.condF rfl ?_ | refine sFa tb ?_ | refine sLd tb ?_ | refine sLa tb ?_ | refine sLen tb ?_ | refine sFd tb ?_ | refine sBd tb ?_ | refine sBa tb ?_); try (first | refine gl tb ?_ | refine gg tb ?_ | refine ll tb ?_ | refine lg tb ?_))
      first | refine G.condD rfl (fun hc => ?_) (fun hc => ?_) | refine G.condN rfl (fun hc => ?_) (fun hc => ?_) | refine G.cond rfl (fun hc => ?_) (fun hc => ?_)
      · simp only [Bool.and_eq_true, decide_eq_true_eq] at hc
        have hlt : k < names.length := by omega
        clear hc
        obtain ⟨x, hget, hmem, -⟩ := Strs.at hlt
        try (first | refine gl tb ?_ | refine gg tb ?_ | refine ll tb ?_ | refine lg tb ?_); repeat ((first | refine G.condT rfl ?_ | refine G.condF rfl ?_ | refine sFa tb ?_ | refine sLd tb ?_ | refine sLa tb ?_ | refine sLen tb ?_ | refine sFd tb ?_ | refine sBd tb ?_ | refine sBa tb ?_); try (first | refine gl tb ?_ | refine gg tb ?_ | refine ll tb ?_ | refine lg tb ?_))
        refine G.regionM [(0, true), (1, true), (2, true), (3, true), (4, true), (6, true), (7, true), (8, true), (9, true), (10, true), (5, false), (11, false), (12, true), (13, true), (14, true), (15, true), (16, true), (17, true), (18, true), (20, true), (21, true), (22, true), (23, true), (24, true), (19, false), (25, false), (26, false), (27, true), (28, true)] (Ext W9) (by kernel_rfl) (by kernel_rfl) rfl mixed (Ext.drew W9) rfl ?_
        try (refine mm tb ?_); repeat ((first | refine dFa tb ?_ | refine dLd tb ?_ | refine dLa tb ?_ | refine dLen tb ?_ | refine dFd tb ?_ | refine dIa tb k ?_); try (refine mm tb ?_))
        have hx9 := Ext.drew W9
        generalize W9.drew = W10 at hx9 ⊢
        refine GM.eff (Step.callX rfl rfl (by repeat (first | exact OpL.nil | refine OpL.cons (Op1.of rfl (by first | exact fun _ => rfl | exact fun h => h | exact fun h => bL h | exact fun h => bL (bL h) | exact fun h => bL (bL (bL h)))) ?_)) c17 rfl (fun hc => get_ok [] [] x (.slice ua ls.length uc) ls W10 (hu9.to hx9) (by omega)) ?_)
        intro W11 hx11
        have hx9 := hx9.trans hx11
        refine ⟨hx9, ?_⟩
        try (refine mm tb ?_); repeat ((first | refine dFa tb ?_ | refine dLd tb ?_ | refine dLa tb ?_ | refine dLen tb ?_ | refine dFd tb ?_ | refine dIa tb k ?_); try (refine mm tb ?_))
        refine GM.eff (Step.callX rfl rfl (by repeat (first | exact OpL.nil | refine OpL.cons (Op1.of rfl (by first | exact fun _ => rfl | exact fun h => h | exact fun h => bL h | exact fun h => bL (bL h) | exact fun h => bL (bL (bL h)))) ?_)) c18 rfl (fun hc => refGet_ok [] [] x (.slice ua ls.length uc) ls W11 (hu9.to hx9) (by omega)) ?_)
        intro W12 hx12
        have hx9 := hx9.trans hx12
        refine ⟨hx9, ?_⟩
        try (refine mm tb ?_); repeat ((first | refine dFa tb ?_ | refine dLd tb ?_ | refine dLa tb ?_ | refine dLen tb ?_ | refine dFd tb ?_ | refine dIa tb k ?_); try (refine mm tb ?_))
        refine GM.eff (Step.on rfl (by simp) (Step.callO rfl rfl (by repeat (first | exact OpL.nil | refine OpL.cons (Op1.of rfl (by first | exact fun _ => rfl | exact fun _ => by simp [cv])) ?_)) c20 rfl (getAll_ok [] [] x (.slice ua ls.length uc) ls W12 (hu9.to hx9) (by omega)) ?_))
        rintro q W13 ⟨hq, hx13⟩
        have hq := hq.sli
        have hx9 := hx9.trans hx13
        refine ⟨hx9, ?_⟩
        try (refine mm tb ?_); repeat ((first | refine dFa tb ?_ | refine dLd tb ?_ | refine dLa tb ?_ | refine dLen tb ?_ | refine dFd tb ?_ | refine dIa tb k ?_); try (refine mm tb ?_))
        refine GM.eff (Step.on rfl (by simp) (Step.callO rfl rfl (by repeat (first | exact OpL.nil | refine OpL.cons (Op1.of rfl (by first | exact fun _ => rfl | exact fun _ => by simp [cv])) ?_)) c21 rfl (refGetAll_ok [] [] x (.slice ua ls.length uc) ls W13 (hu9.to hx9) (by omega)) ?_))
        rintro q2 W14 ⟨hq2, hx14⟩
        have hq2 := hq2.sli
        have hq := hq.to hx14
        have hx9 := hx9.trans hx14
        refine ⟨hx9, ?_⟩
        refine GM.eff (Step.on rfl (by simp) (Step.callO rfl rfl (by repeat (first | exact OpL.nil | refine OpL.cons (Op1.of rfl (by first | exact fun _ => rfl | exact fun _ => by simp [cv])) ?_)) c19 rfl (texts_ok q q2 _ W14 hq hq2) ?_))
        rintro _ W15 ⟨rfl, hx15⟩
        have hx9 := hx9.trans hx15
        refine ⟨hx9, ?_⟩
        try (refine mm tb ?_); repeat ((first | refine dFa tb ?_ | refine dLd tb ?_ | refine dLa tb ?_ | refine dLen tb ?_ | refine dFd tb ?_ | refine dIa tb k ?_); try (refine mm tb ?_))
        refine GM.nil ?_
        try (first | refine gl tb ?_ | refine gg tb ?_ | refine ll tb ?_ | refine lg tb ?_); repeat ((first | refine G.condT rfl ?_ | refine G.condF rfl ?_ | refine sFa tb ?_ | refine sLd tb ?_ | refine sLa tb ?_ | refine sLen tb ?_ | refine sFd tb ?_ | refine sBd tb ?_ | refine sBa tb ?_); try (first | refine gl tb ?_ | refine gg tb ?_ | refine ll tb ?_ | refine lg tb ?_))
        first | refine G.condD rfl (fun hc => ?_) (fun hc => ?_) | refine G.condN rfl (fun hc => ?_) (fun hc => ?_) | refine G.cond rfl (fun hc => ?_) (fun hc => ?_)
        · exfalso
          simp at hc
        · try (first | refine gl tb ?_ | refine gg tb ?_ | refine ll tb ?_ | refine lg tb ?_); repeat ((first | refine G.condT rfl ?_ | refine G.condF rfl ?_ | refine sFa tb ?_ | refine sLd tb ?_ | refine sLa tb ?_ | refine sLen tb ?_ | refine sFd tb ?_ | refine sBd tb ?_ | refine sBa tb ?_); try (first | refine gl tb ?_ | refine gg tb ?_ | refine ll tb ?_ | refine lg tb ?_))
          refine sAd tb ?_
          try (first | refine gl tb ?_ | refine gg tb ?_ | refine ll tb ?_ | refine lg tb ?_); repeat ((first | refine G.condT rfl ?_ | refine G.condF rfl ?_ | refine sFa tb ?_ | refine sLd tb ?_ | refine sLa tb ?_ | refine sLen tb ?_ | refine sFd tb ?_ | refine sBd tb ?_ | refine sBa tb ?_); try (first | refine gl tb ?_ | refine gg tb ?_ | refine ll tb ?_ | refine lg tb ?_))
          exact G.lp (k + 1) (by repeat (first | exact Sub.nil _ | refine Sub.cons rfl ?_)) ⟨hx89.trans hx9, by omega⟩ (by omega)
      · clear hc hb159 hu9 hu8 hb15 hu2 hpb
        have hx09 := hx08.trans hx89
        have hb29 := hb2.to hx89
        have hb69 := hb6.to hx89
        have hwi : 0 ≤ stop % 40 ∧ stop % 40 < 40 := by omega
        clear hx08 hx89 hb2 hb6 hv8 hv
        try (first | refine gl tb ?_ | refine gg tb ?_ | refine ll tb ?_ | refine lg tb ?_); repeat ((first | refine G.condT rfl ?_ | refine G.condF rfl ?_ | refine sFa tb ?_ | refine sLd tb ?_ | refine sLa tb ?_ | refine sLen tb ?_ | refine sFd tb ?_ | refine sBd tb ?_ | refine sBa tb ?_); try (first | refine gl tb ?_ | refine gg tb ?_ | refine ll tb ?_ | refine lg tb ?_))
        refine G.loopD (fun x : Nat × List Nat => [(2, none, ptr w1.heap.size), (3, none, S s), (5, none, .slice va names.length vc), (6, none, ptr b6), (17, none, .int .i64 x.1)]) (fun x => x.2.map col)
          (fun x V => Ext W9 V ∧ x.1 ≤ names.length ∧ (∀ r ∈ x.2, Df r V ∧ W9.heap.size ≤ r) ∧ x.2.Nodup) (fun x => names.length - x.1) (0, []) rfl (by repeat (first | exact Sub.nil _ | refine Sub.cons rfl ?_)) ⟨Ext.refl _, by simp, by simp, by simp⟩ ?_
        rintro ⟨k2, rs⟩ V ⟨hxV, hk2, hrs, hnd⟩
        simp only at hk2 hrs hnd ⊢
        have hvV := hv9.to hxV
        try (first | refine gl tb ?_ | refine gg tb ?_ | refine ll tb ?_ | refine lg tb ?_); repeat ((first | refine G.condT rfl ?_ | refine G.condF rfl ?_ | refine sFa tb ?_ | refine sLd tb ?_ | refine sLa tb ?_ | refine sLen tb ?_ | refine sFd tb ?_ | refine sBd tb ?_ | refine sBa tb ?_); try (first | refine gl tb ?_ | refine gg tb ?_ | refine ll tb ?_ | refine lg tb ?_))
        rw [List.length_map]
        try (first | refine gl tb ?_ | refine gg tb ?_ | refine ll tb ?_ | refine lg tb ?_); repeat ((first | refine G.condT rfl ?_ | refine G.condF rfl ?_ | refine sFa tb ?_ | refine sLd tb ?_ | refine sLa tb ?_ | refine sLen tb ?_ | refine sFd tb ?_ | refine sBd tb ?_ | refine sBa tb ?_); try (first | refine gl tb ?_ | refine gg tb ?_ | refine ll tb ?_ | refine lg tb ?_))
        first | refine G.condD rfl (fun hc => ?_) (fun hc => ?_) | refine G.condN rfl (fun hc => ?_) (fun hc => ?_) | refine G.cond rfl (fun hc => ?_) (fun hc => ?_)
        · simp only [Bool.and_eq_true, decide_eq_true_eq] at hc
          have hlt : k2 < names.length := by omega
          clear hc
          obtain ⟨x, hget, hmem, -⟩ := Strs.at hlt
          have hxl := hn x hmem
          try (first | refine gl tb ?_ | refine gg tb ?_ | refine ll tb ?_ | refine lg tb ?_); repeat ((first | refine G.condT rfl ?_ | refine G.condF rfl ?_ | refine sFa tb ?_ | refine sLd tb ?_ | refine sLa tb ?_ | refine sLen tb ?_ | refine sFd tb ?_ | refine sBd tb ?_ | refine sIa tb k2 ?_); try (first | refine gl tb ?_ | refine gg tb ?_ | refine ll tb ?_ | refine lg tb ?_))
          refine sCall c22 (refPieces_ok s x V (by omega) hxl) ?_
          rintro wt V1 ⟨hwt, hx1⟩
          refine sAl tb ?_
          intro V2 hb18 hs2 hx2
          refine sSt tb ?_ (hb := hb18) (hv := hwt.cells) (h1 := hwt.sli.one)
          intro V3 hb18 hw3
          have hx13 : Ext V1 V3 := Below.wr hx2 hw3 (Nat.le_refl _)
          have hxVV3 := hx1.trans hx13
          have hxV3 := hxV.trans hxVV3
          have hwt3 := hwt.sli.to hx13
          have hpc := piecesL_cnt s x
          obtain ⟨b18, hb18e⟩ : ∃ b, b = V1.heap.size := ⟨_, rfl⟩
          rw [← hb18e] at hb18 ⊢
          have hb18l := hb18.lt
          clear hwt hx2 hw3 hx13
          try (first | refine gl tb ?_ | refine gg tb ?_ | refine ll tb ?_ | refine lg tb ?_); repeat ((first | refine G.condT rfl ?_ | refine G.condF rfl ?_ | refine sFa tb ?_ | refine sLd tb ?_ | refine sLa tb ?_ | refine sLen tb ?_ | refine sFd tb ?_ | refine sBd tb ?_ | refine sBa tb ?_); try (first | refine gl tb ?_ | refine gg tb ?_ | refine ll tb ?_ | refine lg tb ?_))
          refine sAl tb ?_
          intro V4 hb19 hs4 hx4
          refine sSt tb ?_
          intro V5 hb19 hw5
          have hx35 : Ext V3 V5 := Below.wr hx4 hw5 (Nat.le_refl _)
          obtain ⟨b19, hb19e⟩ : ∃ b, b = V3.heap.size := ⟨_, rfl⟩
          rw [← hb19e] at hb19 ⊢
          have hb19l := hb19.lt
          have hvV5 := hv9.to (hxV3.trans hx35)
          clear hx4 hw5 hvV
          try (first | refine gl tb ?_ | refine gg tb ?_ | refine ll tb ?_ | refine lg tb ?_); repeat ((first | refine G.condT rfl ?_ | refine G.condF rfl ?_ | refine sFa tb ?_ | refine sLd tb ?_ | refine sLa tb ?_ | refine sLen tb ?_ | refine sFd tb ?_ | refine sBd tb ?_ | refine sIa tb k2 ?_); try (first | refine gl tb ?_ | refine gg tb ?_ | refine ll tb ?_ | refine lg tb ?_))
          refine sCall c23 (pieces_ok s x V5) ?_
          rintro fv V6 ⟨q1, q2, rfl, hq1, hq2, hbq1, hbq2, hx56⟩
          have hx36 := hx35.trans hx56
          have hb196 := hb19.to hx56
          have hq1l := hbq1.lt
          have hq2l := hbq2.lt
          have hne1 : q1 ≠ b19 := by omega
          have hne2 : q2 ≠ b19 := by omega
          have hz36 := hx36.size
          have hb63 := hb69.to hxV3
          have hM3 := hM.to (hx09.trans hxV3)
          have hrs3 : ∀ r ∈ rs, Df r V3 ∧ W9.heap.size ≤ r := fun r hr => ⟨(hrs r hr).1.to hxVV3, (hrs r hr).2⟩
          try (first | refine gl tb ?_ | refine gg tb ?_ | refine ll tb ?_ | refine lg tb ?_); repeat ((first | refine G.condT rfl ?_ | refine G.condF rfl ?_ | refine sFa tb ?_ | refine sLd tb ?_ | refine sLa tb ?_ | refine sLen tb ?_ | refine sFd tb ?_ | refine sBd tb ?_ | refine sBa tb ?_); try (first | refine gl tb ?_ | refine gg tb ?_ | refine ll tb ?_ | refine lg tb ?_))
          refine sEqnf tb ?_
          try (first | refine gl tb ?_ | refine gg tb ?_ | refine ll tb ?_ | refine lg tb ?_); repeat ((first | refine G.condT rfl ?_ | refine G.condF rfl ?_ | refine sFa tb ?_ | refine sLd tb ?_ | refine sLa tb ?_ | refine sLen tb ?_ | refine sFd tb ?_ | refine sBd tb ?_ | refine sBa tb ?_); try (first | refine gl tb ?_ | refine gg tb ?_ | refine ll tb ?_ | refine lg tb ?_))
          refine G.rangeFunc rfl rfl c40 (pieces1_ok s x q1 q2 (by omega)) rfl rfl (by intro x hx; obtain ⟨y, _, rfl⟩ := List.mem_map.1 hx; rfl)
            (fun i Y => Ext V3 Y ∧ Bx Y b19 [.int .i64 i] ∧ Bx Y q1 [S s] ∧ Bx Y q2 [S x] ∧ V6.heap.size ≤ Y.heap.size ∧ i ≤ (piecesL s x).length)
            (fun c Y => c = .exit 4 ∧ Ext V3 Y ∧ V6.heap.size ≤ Y.heap.size ∧ Bx Y b19 [.int .i64 (1 + stop % 40)]) ?_ ?_ ?_ ?_ ?_ ?_ ?_
          · rintro l hl i Y Y' ⟨h1, h2, h3, h4, h5, h6⟩ hkk
            exact ⟨Below.kept h1 hkk (by omega) h1.size, h2.kept hkk, h3.kept hkk, h4.kept hkk, by have := hkk.2.size; omega, h6⟩
          · rintro l hl c Y Y' ⟨h0, h1, h5, h3⟩ hkk
            exact ⟨h0, Below.kept h1 hkk (by omega) h1.size, by have := hkk.2.size; omega, h3.kept hkk⟩
          · rintro i Y ⟨h1, h2, h3, h4, _⟩
            exact ⟨h3.cells.one, h4.cells.one, hM3.to h1⟩
          · exact fun w' h => ⟨hx36.trans h, hb196.to h, hbq1.to h, hbq2.to h, h.size, by simp⟩
          · rintro l r rc i y Y hl hlr hxi ⟨h1, h2, h3, h4, h5, h6⟩ hLp
            simp only [List.getElem?_map, Option.map_eq_some_iff] at hxi
            obtain ⟨p, hpg, rfl⟩ := hxi
            try (first | refine gl tb ?_ | refine gg tb ?_ | refine ll tb ?_ | refine lg tb ?_); repeat ((first | refine G.condT rfl ?_ | refine G.condF rfl ?_ | refine sFa tb ?_ | refine sLd tb ?_ | refine sLa tb ?_ | refine sLen tb ?_ | refine sFd tb ?_ | refine sBd tb ?_ | refine sBa tb ?_); try (first | refine gl tb ?_ | refine gg tb ?_ | refine ll tb ?_ | refine lg tb ?_))
            refine G.beg rfl rfl rfl hLp hlr ?_
            intro U3 hkk hLp3 hsz
            have h1' : Ext V3 U3 := Below.kept h1 hkk (by omega) h1.size
            have h2' := h2.kept hkk
            have h3' := h3.kept hkk
            have h4' := h4.kept hkk
            have h5' : V6.heap.size ≤ U3.heap.size := by omega
            clear h1 h2 h3 h4 h5 hkk hLp
            have hlt2 : i < (piecesL s x).length := (List.getElem?_eq_some_iff.1 hpg).1
            have hgp : ((piecesL s x).map strC)[i]? = some (strC p) := by simp [hpg]
            have hwU := hwt3.to h1'
            have hb18U := hb18.to h1'
            try (first | refine gl tb ?_ | refine gg tb ?_ | refine ll tb ?_ | refine lg tb ?_); repeat ((first | refine G.condT rfl ?_ | refine G.condF rfl ?_ | refine sFa tb ?_ | refine sLd tb ?_ | refine sLa tb ?_ | refine sLen tb ?_ | refine sFd tb ?_ | refine sBd tb ?_ | refine sIa tb i ?_); try (first | refine gl tb ?_ | refine gg tb ?_ | refine ll tb ?_ | refine lg tb ?_))
            first | refine G.condD rfl (fun hc => ?_) (fun hc => ?_) | refine G.condN rfl (fun hc => ?_) (fun hc => ?_) | refine G.cond rfl (fun hc => ?_) (fun hc => ?_)
            · exfalso
              simp only [List.length_map, decide_true, Bool.not_true, Bool.or_false, decide_eq_true_eq] at hc
              omega
            · clear hc
              try (first | refine gl tb ?_ | refine gg tb ?_ | refine ll tb ?_ | refine lg tb ?_); repeat ((first | refine G.condT rfl ?_ | refine G.condF rfl ?_ | refine sFa tb ?_ | refine sLd tb ?_ | refine sLa tb ?_ | refine sLen tb ?_ | refine sFd tb ?_ | refine sBd tb ?_ | refine sBa tb ?_); try (first | refine gl tb ?_ | refine gg tb ?_ | refine ll tb ?_ | refine lg tb ?_))
              refine sAd tb ?_
              refine sSt tb ?_
              intro U4 hb194 hw4
              have h14 : Ext V3 U4 := Below.wr h1' hw4 (by omega)
              have h34 := h3'.wr hw4 hne1
              have h44 := h4'.wr hw4 hne2
              have hL4 := hLp3.wr h2' hw4
              have hz4 := hw4.size
              have hb64 := hb63.to h14
              clear h1' h3' h4' hLp3 h2' hwU hb18U hw4
              try (first | refine gl tb ?_ | refine gg tb ?_ | refine ll tb ?_ | refine lg tb ?_); repeat ((first | refine G.condT rfl ?_ | refine G.condF rfl ?_ | refine sFa tb ?_ | refine sLd tb ?_ | refine sLa tb ?_ | refine sLen tb ?_ | refine sFd tb ?_ | refine sBd tb ?_ | refine sBa tb ?_); try (first | refine gl tb ?_ | refine gg tb ?_ | refine ll tb ?_ | refine lg tb ?_))
              refine G.regionM [(0, true), (1, true), (2, true), (3, true), (4, true)] (Ext U4) (by kernel_rfl) (by kernel_rfl) rfl mixed (Ext.drew U4) rfl ?_
              try (refine mm tb ?_); repeat ((first | refine dFa tb ?_ | refine dLd tb ?_ | refine dLa tb ?_ | refine dLen tb ?_ | refine dFd tb ?_); try (refine mm tb ?_))
              refine dCallq c7 (fun w' _ _ => within_ok stop 40 w' (by omega) (by omega)) ?_
              refine dAr (r := 1 + stop % 40) ?_ (hp := wrap_i64 (by omega) (by omega))
              try (refine mm tb ?_); repeat ((first | refine dFa tb ?_ | refine dLd tb ?_ | refine dLa tb ?_ | refine dLen tb ?_ | refine dFd tb ?_); try (refine mm tb ?_))
              refine GM.nil ?_
              have h15 := h14.drew'
              have hb195 := hb194.to (Ext.drew U4)
              have h35 := h34.to (Ext.drew U4)
              have h45 := h44.to (Ext.drew U4)
              have hL5 := hL4.to (Ext.drew U4)
              have hz5 : U4.drew.heap.size = U4.heap.size := by simp
              generalize U4.drew = U5 at h15 hb195 h35 h45 hL5 hz5 ⊢
              try (first | refine gl tb ?_ | refine gg tb ?_ | refine ll tb ?_ | refine lg tb ?_); repeat ((first | refine G.condT rfl ?_ | refine G.condF rfl ?_ | refine sFa tb ?_ | refine sLd tb ?_ | refine sLa tb ?_ | refine sLen tb ?_ | refine sFd tb ?_ | refine sBd tb ?_ | refine sBa tb ?_); try (first | refine gl tb ?_ | refine gg tb ?_ | refine ll tb ?_ | refine lg tb ?_))
              first | refine G.condD rfl (fun hc => ?_) (fun hc => ?_) | refine G.condN rfl (fun hc => ?_) (fun hc => ?_) | refine G.cond rfl (fun hc => ?_) (fun hc => ?_)
              · try (first | refine gl tb ?_ | refine gg tb ?_ | refine ll tb ?_ | refine lg tb ?_); repeat ((first | refine G.condT rfl ?_ | refine G.condF rfl ?_ | refine sFa tb ?_ | refine sLd tb ?_ | refine sLa tb ?_ | refine sLen tb ?_ | refine sFd tb ?_ | refine sBd tb ?_ | refine sBa tb ?_); try (first | refine gl tb ?_ | refine gg tb ?_ | refine ll tb ?_ | refine lg tb ?_))
                exact G.exitOut rfl fun t _ => ⟨hL5, rfl, h15, by omega, by rw [hc] at hb195; exact hb195⟩
              · try (first | refine gl tb ?_ | refine gg tb ?_ | refine ll tb ?_ | refine lg tb ?_); repeat ((first | refine G.condT rfl ?_ | refine G.condF rfl ?_ | refine sFa tb ?_ | refine sLd tb ?_ | refine sLa tb ?_ | refine sLen tb ?_ | refine sFd tb ?_ | refine sBd tb ?_ | refine sBa tb ?_); try (first | refine gl tb ?_ | refine gg tb ?_ | refine ll tb ?_ | refine lg tb ?_))
                exact G.nil fun t _ => ⟨hL5, h15, hb195, h35, h45, by omega, by omega⟩
          · rintro r Y hr ⟨h1, h2, h3, h4, h5, h6⟩ hD
            rw [List.length_map] at h2
            have hwU := hwt3.to h1
            have hb18U := hb18.to h1
            have hb6U := hb63.to h1
            have hzr := hD.lt
            try (first | refine gl tb ?_ | refine gg tb ?_ | refine ll tb ?_ | refine lg tb ?_); repeat ((first | refine G.condT rfl ?_ | refine G.condF rfl ?_ | refine sFa tb ?_ | refine sLd tb ?_ | refine sLa tb ?_ | refine sLen tb ?_ | refine sFd tb ?_ | refine sBd tb ?_ | refine sBa tb ?_); try (first | refine gl tb ?_ | refine gg tb ?_ | refine ll tb ?_ | refine lg tb ?_))
            refine G.regionM [(0, true), (1, true), (2, true), (3, true), (4, true), (5, true), (6, true), (7, true), (8, true), (9, true), (10, true)] (Ext Y) (by kernel_rfl) (by kernel_rfl) rfl mixed (Ext.drew Y) rfl ?_
            try (refine mm tb ?_); repeat ((first | refine dFa tb ?_ | refine dLd tb ?_ | refine dLa tb ?_ | refine dLen tb ?_ | refine dFd tb ?_); try (refine mm tb ?_))
            refine dCallq c7 (fun w' _ _ => within_ok stop 40 w' (by omega) (by omega)) ?_
            refine dAr (r := 1 + stop % 40) ?_ (hp := wrap_i64 (by omega) (by omega))
            try (refine mm tb ?_); repeat ((first | refine dFa tb ?_ | refine dLd tb ?_ | refine dLa tb ?_ | refine dLen tb ?_ | refine dFd tb ?_); try (refine mm tb ?_))
            refine GM.nil ?_
            have h15 := h1.drew'
            have hD5 := hD.to (Ext.drew Y)
            have hz5 : Y.drew.heap.size = Y.heap.size := by simp
            generalize Y.drew = U5 at h15 hD5 hz5 ⊢
            try (first | refine gl tb ?_ | refine gg tb ?_ | refine ll tb ?_ | refine lg tb ?_); repeat ((first | refine G.condT rfl ?_ | refine G.condF rfl ?_ | refine sFa tb ?_ | refine sLd tb ?_ | refine sLa tb ?_ | refine sLen tb ?_ | refine sFd tb ?_ | refine sBd tb ?_ | refine sBa tb ?_); try (first | refine gl tb ?_ | refine gg tb ?_ | refine ll tb ?_ | refine lg tb ?_))
            first | refine G.condD rfl (fun hc => ?_) (fun hc => ?_) | refine G.condN rfl (fun hc => ?_) (fun hc => ?_) | refine G.cond rfl (fun hc => ?_) (fun hc => ?_)
            · exfalso
              simp at hc
            · try (first | refine gl tb ?_ | refine gg tb ?_ | refine ll tb ?_ | refine lg tb ?_); repeat ((first | refine G.condT rfl ?_ | refine G.condF rfl ?_ | refine sFa tb ?_ | refine sLd tb ?_ | refine sLa tb ?_ | refine sLen tb ?_ | refine sFd tb ?_ | refine sBd tb ?_ | refine sBa tb ?_); try (first | refine gl tb ?_ | refine gg tb ?_ | refine ll tb ?_ | refine lg tb ?_))
              refine sAd tb ?_
              try (first | refine gl tb ?_ | refine gg tb ?_ | refine ll tb ?_ | refine lg tb ?_); repeat ((first | refine G.condT rfl ?_ | refine G.condF rfl ?_ | refine sFa tb ?_ | refine sLd tb ?_ | refine sLa tb ?_ | refine sLen tb ?_ | refine sFd tb ?_ | refine sBd tb ?_ | refine sBa tb ?_); try (first | refine gl tb ?_ | refine gg tb ?_ | refine ll tb ?_ | refine lg tb ?_))
              refine G.lpD (x := (k2, rs)) (k2 + 1, r :: rs) rfl rfl (by repeat (first | exact Sub.nil _ | refine Sub.cons rfl ?_)) ⟨hxV3.trans h15, by simp only; omega, ?_, ?_⟩ (by simp only; omega)
              · intro r' hr'
                rcases List.mem_cons.1 hr' with rfl | hr'
                · exact ⟨hD5, by have := hxV3.size; omega⟩
                · exact ⟨(hrs3 r' hr').1.to h15, (hrs3 r' hr').2⟩
              · exact List.nodup_cons.2 ⟨fun hm => by have := (hrs3 r hm).1.lt; omega, hnd⟩
          · rintro r c Y hr ⟨rfl, h1, h5, h2⟩ hD
            have hwU := hwt3.to h1
            have hb18U := hb18.to h1
            have hb6U := hb63.to h1
            have hzr := hD.lt
            try (first | refine gl tb ?_ | refine gg tb ?_ | refine ll tb ?_ | refine lg tb ?_); repeat ((first | refine G.condT rfl ?_ | refine G.condF rfl ?_ | refine sFa tb ?_ | refine sLd tb ?_ | refine sLa tb ?_ | refine sLen tb ?_ | refine sFd tb ?_ | refine sBd tb ?_ | refine sBa tb ?_); try (first | refine gl tb ?_ | refine gg tb ?_ | refine ll tb ?_ | refine lg tb ?_))
            refine G.regionM [(0, true), (1, true), (2, true), (3, true), (4, true), (5, true), (6, true), (7, true), (8, true), (9, true), (10, true)] (Ext Y) (by kernel_rfl) (by kernel_rfl) rfl mixed (Ext.drew Y) rfl ?_
            try (refine mm tb ?_); repeat ((first | refine dFa tb ?_ | refine dLd tb ?_ | refine dLa tb ?_ | refine dLen tb ?_ | refine dFd tb ?_); try (refine mm tb ?_))
            refine dCallq c7 (fun w' _ _ => within_ok stop 40 w' (by omega) (by omega)) ?_
            refine dAr (r := 1 + stop % 40) ?_ (hp := wrap_i64 (by omega) (by omega))
            try (refine mm tb ?_); repeat ((first | refine dFa tb ?_ | refine dLd tb ?_ | refine dLa tb ?_ | refine dLen tb ?_ | refine dFd tb ?_); try (refine mm tb ?_))
            refine GM.nil ?_
            have h15 := h1.drew'
            have hD5 := hD.to (Ext.drew Y)
            have hz5 : Y.drew.heap.size = Y.heap.size := by simp
            generalize Y.drew = U5 at h15 hD5 hz5 ⊢
            try (first | refine gl tb ?_ | refine gg tb ?_ | refine ll tb ?_ | refine lg tb ?_); repeat ((first | refine G.condT rfl ?_ | refine G.condF rfl ?_ | refine sFa tb ?_ | refine sLd tb ?_ | refine sLa tb ?_ | refine sLen tb ?_ | refine sFd tb ?_ | refine sBd tb ?_ | refine sBa tb ?_); try (first | refine gl tb ?_ | refine gg tb ?_ | refine ll tb ?_ | refine lg tb ?_))
            first | refine G.condD rfl (fun hc => ?_) (fun hc => ?_) | refine G.condN rfl (fun hc => ?_) (fun hc => ?_) | refine G.cond rfl (fun hc => ?_) (fun hc => ?_)
            · exfalso
              simp at hc
            · try (first | refine gl tb ?_ | refine gg tb ?_ | refine ll tb ?_ | refine lg tb ?_); repeat ((first | refine G.condT rfl ?_ | refine G.condF rfl ?_ | refine sFa tb ?_ | refine sLd tb ?_ | refine sLa tb ?_ | refine sLen tb ?_ | refine sFd tb ?_ | refine sBd tb ?_ | refine sBa tb ?_); try (first | refine gl tb ?_ | refine gg tb ?_ | refine ll tb ?_ | refine lg tb ?_))
              refine sAd tb ?_
              try (first | refine gl tb ?_ | refine gg tb ?_ | refine ll tb ?_ | refine lg tb ?_); repeat ((first | refine G.condT rfl ?_ | refine G.condF rfl ?_ | refine sFa tb ?_ | refine sLd tb ?_ | refine sLa tb ?_ | refine sLen tb ?_ | refine sFd tb ?_ | refine sBd tb ?_ | refine sBa tb ?_); try (first | refine gl tb ?_ | refine gg tb ?_ | refine ll tb ?_ | refine lg tb ?_))
              refine G.lpD (x := (k2, rs)) (k2 + 1, r :: rs) rfl rfl (by repeat (first | exact Sub.nil _ | refine Sub.cons rfl ?_)) ⟨hxV3.trans h15, by simp only; omega, ?_, ?_⟩ (by simp only; omega)
              · intro r' hr'
                rcases List.mem_cons.1 hr' with rfl | hr'
                · exact ⟨hD5, by have := hxV3.size; omega⟩
                · exact ⟨(hrs3 r' hr').1.to h15, (hrs3 r' hr').2⟩
              · exact List.nodup_cons.2 ⟨fun hm => by have := (hrs3 r hm).1.lt; omega, hnd⟩
        · clear hc
          have hx0V := hx09.trans hxV
          try (first | refine gl tb ?_ | refine gg tb ?_ | refine ll tb ?_ | refine lg tb ?_); repeat ((first | refine G.condT rfl ?_ | refine G.condF rfl ?_ | refine sFa tb ?_ | refine sLd tb ?_ | refine sLa tb ?_ | refine sLen tb ?_ | refine sFd tb ?_ | refine sBd tb ?_ | refine sBa tb ?_); try (first | refine gl tb ?_ | refine gg tb ?_ | refine ll tb ?_ | refine lg tb ?_))
          refine sCall c10 (wakes_ok V (hM.to hx0V) (hT.to hx0V)) ?_
          rintro _ V1 ⟨rfl, hx1⟩
          have hb4 := (hb29.to hxV).to hx1
          have hrs1 : ∀ r ∈ rs, Df r V1 ∧ W9.heap.size ≤ r := fun r hr => ⟨(hrs r hr).1.to hx1, (hrs r hr).2⟩
          have hx0V1 := hx0V.trans hx1
          refine sSt tb ?_
          intro V2 hb4b hw4
          have hrs2 : ∀ r ∈ rs, Df r V2 := fun r hr => (hrs1 r hr).1.wr hb4 hw4
          have hz9 := hx09.size
          have hx02 : Ext w V2 := Below.wr hx0V1 hw4 (by omega)
          try (first | refine gl tb ?_ | refine gg tb ?_ | refine ll tb ?_ | refine lg tb ?_); repeat ((first | refine G.condT rfl ?_ | refine G.condF rfl ?_ | refine sFa tb ?_ | refine sLd tb ?_ | refine sLa tb ?_ | refine sLen tb ?_ | refine sFd tb ?_ | refine sBd tb ?_ | refine sBa tb ?_); try (first | refine gl tb ?_ | refine gg tb ?_ | refine ll tb ?_ | refine lg tb ?_))
          refine G.retN rs rfl rfl hrs2 hnd fun t ht => ⟨_, resC1 ht rfl rfl (tb.ok _ _ rfl) rfl (hb4b.outs hrs2 hnd).cells.one, rfl, ?_⟩
          exact below_outs hx02 (fun r hr => by have := (hrs1 r hr).2; omega)
  · refine GD.steps ([(0, true), (1, true), (3, true), (4, true), (5, true), (6, true), (7, true), (8, true)]) (by kernel_rfl) (by kernel_rfl) rfl ?_
    try (refine mm tb ?_); repeat ((first | refine dFa tb ?_ | refine dLd tb ?_ | refine dLa tb ?_ | refine dLen tb ?_ | refine dFd tb ?_); try (refine mm tb ?_))
    refine GM.nil ?_
    refine GD.two (2) (9) (by kernel_rfl) (by kernel_rfl) rfl rfl ?_ ?_
    · refine (Step.callF rfl rfl rfl c11 rfl (short_ok s0 w3 hs) ?_)
      rintro _ w4 ⟨rfl, hx4⟩
      have hx4 := hx0.trans hx4
      refine ⟨hx4, ?_⟩
      refine GD.steps ([(9, false)]) (by kernel_rfl) (by kernel_rfl) rfl ?_
      refine GM.eff (Step.alloc tb rfl rfl rfl rfl ?_)
      intro w5 hb5 hs5 hx5
      refine ⟨hx4.trans hx5, ?_⟩
      refine GM.nil ?_
      exact jn w4.heap.size w5 _ _ (by kernel_rfl) (by kernel_rfl) (by repeat (first | exact Sub.nil _ | refine Sub.cons rfl ?_)) ⟨hx4.trans hx5, hx4.size, hb5⟩
    · refine (Step.alloc tb rfl rfl rfl rfl ?_)
      intro w4 hb4 hs4 hx4
      have hx04 := hx0.trans hx4
      refine ⟨hx04, ?_⟩
      refine GD.steps ([(2, false)]) (by kernel_rfl) (by kernel_rfl) rfl ?_
      refine GM.eff (Step.callF rfl rfl rfl c11 rfl (short_ok s0 w4 hs) ?_)
      rintro _ w5 ⟨rfl, hx5⟩
      refine ⟨hx04.trans hx5, ?_⟩
      refine GM.nil ?_
      exact jn w3.heap.size w5 _ _ (by kernel_rfl) (by kernel_rfl) (by repeat (first | exact Sub.nil _ | refine Sub.cons rfl ?_)) ⟨hx04.trans hx5, hx0.size, hb4.to hx5⟩
end Go.Proofs.YtlaingmhdgpkdaaDoor
