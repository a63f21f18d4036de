/- regex: a program's ways, walked. -/
import Derived.Test.YtbpkhgehchelhaaDoorRS
import Derived.Test.YtbpkhgehchelhaaDoorGR1
open Go Go.Vg Go.RowKit Go.Proofs Go.Proofs.YtbpkhgehchelhaaDoor
namespace Go.Proofs.YtbpkhgehchelhaaDoor
set_option linter.unusedSimpArgs false

theorem rep_set (a b : Int) : ∀ (i k : Nat), (List.replicate i a ++ List.replicate (k + 1) b).set i a = List.replicate (i + 1) a ++ List.replicate k b
  | 0, k => by simp [List.replicate_succ]
  | i + 1, k => by
    have := rep_set a b i k
    simp only [List.replicate_succ, List.cons_append, List.set_cons_succ] at this ⊢
    rw [this]
theorem mul_le (a b A B : Nat) (h1 : a ≤ A) (h2 : b ≤ B) : a * b ≤ A * B := Nat.mul_le_mul h1 h2

/-- what a run tells -/
def RunS (w : World) (st : List Rx.K) (g : Nat) (text : List UInt8) (r : Value) (w' : World) : Prop :=
  Ext w w' ∧ ((Rx.runP st g text = none ∧ r = .tuple ⟨[nilV, .bool false]⟩) ∨ ∃ l v, Rx.runP st g text = some l ∧ Owns w' w.heap.size v 3 1 (l.map inC) ∧ r = .tuple ⟨[v, .bool true]⟩)

set_option maxHeartbeats 8000000 in
theorem run_ok (w : World) (A : Nat → Prop) (pb : Nat) (st : List Rx.K) (g : Nat) (text : List UInt8) (hT : Tabs w) (hP : PrS w A pb st g) (hw : Rx.WfP st g) (hg : g ≤ 256) (ht : text.length ≤ 100000) :
    Ret Tryd.prog 40 ⟨[ptr pb, S text]⟩ w (RunS w st g text) := by
  obtain ⟨-, ⟨sv, ps, hbx, hso, hsA, hpl, htr⟩, hle⟩ := hP
  have hN1 := mul_le st.length (text.length + 1) 2000 100001 hle (by omega)
  have hzl : (List.zipWith stC st ps).length = st.length := by rw [List.length_zipWith, hpl, Nat.min_self]
  have hsv0 : ∃ a m cap, sv = .slice (some a) m cap := by
    rcases hso.sli with ⟨_, he⟩ | ⟨a, cap, e, _⟩
    · have := hw.pos
      rw [he] at hzl
      simp at hzl
      omega
    · exact ⟨a, _, cap, e⟩
  obtain ⟨sa, sn, scap, rfl⟩ := hsv0
  generalize hN : st.length * (text.length + 1) = N at hN1
  refine ret_of_G Tryd.func40 rfl Tryd.ntmps40 rfl ?_
  simp only [argEnv]
  try (first | refine gl tb ?_ | refine gg tb ?_ | refine ll tb ?_ | refine lg tb ?_); repeat ((first | refine G.condT rfl ?_ | refine G.condF rfl ?_ | refine sFa tb ?_ | refine sLd tb ?_ | refine sLa tb ?_ | refine sLen tb ?_ | refine sFd tb ?_ | refine sBd tb ?_ | refine sBa tb ?_); try (first | refine gl tb ?_ | refine gg tb ?_ | refine ll tb ?_ | refine lg tb ?_))
  refine sAd tb (r := ((2 * g : Nat) : Int)) ?_
  try (first | refine gl tb ?_ | refine gg tb ?_ | refine ll tb ?_ | refine lg tb ?_); repeat ((first | refine G.condT rfl ?_ | refine G.condF rfl ?_ | refine sFa tb ?_ | refine sLd tb ?_ | refine sLa tb ?_ | refine sLen tb ?_ | refine sFd tb ?_ | refine sBd tb ?_ | refine sBa tb ?_); try (first | refine gl tb ?_ | refine gg tb ?_ | refine ll tb ?_ | refine lg tb ?_))
  refine sAd tb (r := ((2 * g + 2 : Nat) : Int)) ?_
  try (first | refine gl tb ?_ | refine gg tb ?_ | refine ll tb ?_ | refine lg tb ?_); repeat ((first | refine G.condT rfl ?_ | refine G.condF rfl ?_ | refine sFa tb ?_ | refine sLd tb ?_ | refine sLa tb ?_ | refine sLen tb ?_ | refine sFd tb ?_ | refine sBd tb ?_ | refine sBa tb ?_); try (first | refine gl tb ?_ | refine gg tb ?_ | refine ll tb ?_ | refine lg tb ?_))
  refine sMkS tb (z := .int .i64 0) (bytes := 8) (m := ((2 * g + 2 : Nat) : Int)) (2 * g + 2) (fun nv W1 ho1 hs1 hx1 hn1 => ?_)
  have hv1 := ho1.sli
  try (first | refine gl tb ?_ | refine gg tb ?_ | refine ll tb ?_ | refine lg tb ?_); repeat ((first | refine G.condT rfl ?_ | refine G.condF rfl ?_ | refine sFa tb ?_ | refine sLd tb ?_ | refine sLa tb ?_ | refine sLen tb ?_ | refine sFd tb ?_ | refine sBd tb ?_ | refine sBa tb ?_); try (first | refine gl tb ?_ | refine gg tb ?_ | refine ll tb ?_ | refine lg tb ?_))
  rw [List.length_map, List.length_replicate]
  have e0 : (List.replicate (2 * g + 2) (Value.int .i64 0)).map (fun u => [u]) = (List.replicate 0 (-1 : Int) ++ List.replicate (2 * g + 2 - 0) 0).map inC := by
    simp [inC]
  rw [e0] at ho1
  refine (G.loop (fun i : Nat => [(0, none, ptr pb), (1, none, S text), (6, none, nv), (25, none, .int .i64 ((2 * g + 2 : Nat) : Int)), (26, none, .int .i64 i)])
    (fun i W => Ext w W ∧ Owns W w.heap.size nv 3 1 ((List.replicate i (-1 : Int) ++ List.replicate (2 * g + 2 - i) 0).map inC) ∧ i ≤ 2 * g + 2) (fun i => 2 * g + 2 - i) 0 (by repeat (first | exact Sub.nil _ | refine Sub.cons rfl ?_)) ⟨hx1, ho1, Nat.zero_le _⟩ ?_)
  rintro i W ⟨hx, ho, hi⟩
  clear hv1
  have hll : ((List.replicate i (-1 : Int) ++ List.replicate (2 * g + 2 - i) 0).map inC).length = 2 * g + 2 := by simp; omega
  have hvi := ho.sli
  try (first | refine gl tb ?_ | refine gg tb ?_ | refine ll tb ?_ | refine lg tb ?_); repeat ((first | refine G.condT rfl ?_ | refine G.condF rfl ?_ | refine sFa tb ?_ | refine sLd tb ?_ | refine sLa tb ?_ | refine sLen tb ?_ | refine sFd tb ?_ | refine sBd tb ?_ | refine sBa tb ?_); try (first | refine gl tb ?_ | refine gg tb ?_ | refine ll tb ?_ | refine lg tb ?_))
  first | refine G.condD rfl (fun hc => ?_) (fun hc => ?_) | refine G.condN rfl (fun hc => ?_) (fun hc => ?_) | refine G.cond rfl (fun hc => ?_) (fun hc => ?_)
  · have hlt : i < 2 * g + 2 := by omega
    try (first | refine gl tb ?_ | refine gg tb ?_ | refine ll tb ?_ | refine lg tb ?_); repeat ((first | refine G.condT rfl ?_ | refine G.condF rfl ?_ | refine sFa tb ?_ | refine sLd tb ?_ | refine sLa tb ?_ | refine sLen tb ?_ | refine sFd tb ?_ | refine sBd tb ?_ | refine sBa tb ?_); try (first | refine gl tb ?_ | refine gg tb ?_ | refine ll tb ?_ | refine lg tb ?_))
    refine sIa tb i ?_ (hj := fun _ => ⟨rfl, by rw [hll]; exact hlt⟩)
    try (first | refine gl tb ?_ | refine gg tb ?_ | refine ll tb ?_ | refine lg tb ?_); repeat ((first | refine G.condT rfl ?_ | refine G.condF rfl ?_ | refine sFa tb ?_ | refine sLd tb ?_ | refine sLa tb ?_ | refine sLen tb ?_ | refine sFd tb ?_ | refine sBd tb ?_ | refine sBa tb ?_); try (first | refine gl tb ?_ | refine gg tb ?_ | refine ll tb ?_ | refine lg tb ?_))
    refine sStR tb (j := i) (vs := [.int .i64 (-1)]) ho (by rw [hll]; exact hlt) (fun W2 ho2 hg2 => ?_)
    have hx2 := hg2.ext0 hx
    try (first | refine gl tb ?_ | refine gg tb ?_ | refine ll tb ?_ | refine lg tb ?_); repeat ((first | refine G.condT rfl ?_ | refine G.condF rfl ?_ | refine sFa tb ?_ | refine sLd tb ?_ | refine sLa tb ?_ | refine sLen tb ?_ | refine sFd tb ?_ | refine sBd tb ?_ | refine sBa tb ?_); try (first | refine gl tb ?_ | refine gg tb ?_ | refine ll tb ?_ | refine lg tb ?_))
    refine sAd tb (r := ((i + 1 : Nat) : Int)) ?_
    try (first | refine gl tb ?_ | refine gg tb ?_ | refine ll tb ?_ | refine lg tb ?_); repeat ((first | refine G.condT rfl ?_ | refine G.condF rfl ?_ | refine sFa tb ?_ | refine sLd tb ?_ | refine sLa tb ?_ | refine sLen tb ?_ | refine sFd tb ?_ | refine sBd tb ?_ | refine sBa tb ?_); try (first | refine gl tb ?_ | refine gg tb ?_ | refine ll tb ?_ | refine lg tb ?_))
    refine G.lp (x := i) (i + 1) (by repeat (first | exact Sub.nil _ | refine Sub.cons rfl ?_)) ⟨hx2, ?_, hlt⟩ (by omega)
    have e1 := rep_set (-1) 0 i (2 * g + 2 - (i + 1))
    rw [show 2 * g + 2 - (i + 1) + 1 = 2 * g + 2 - i by omega] at e1
    rw [← e1, List.map_set]
    exact ho2
  · have hie : i = 2 * g + 2 := by omega
    subst hie
    rw [Nat.sub_self, List.replicate_zero, List.append_nil] at ho
    clear hvi hll e0 ho1
    have hbx' := hbx.to hx
    have hso' := hso.to hx
    have hsv' := hso'.sli
    try (first | refine gl tb ?_ | refine gg tb ?_ | refine ll tb ?_ | refine lg tb ?_); repeat ((first | refine G.condT rfl ?_ | refine G.condF rfl ?_ | refine sFa tb ?_ | refine sLd tb ?_ | refine sLa tb ?_ | refine sLen tb ?_ | refine sFd tb ?_ | refine sBd tb ?_ | refine sBa tb ?_); try (first | refine gl tb ?_ | refine gg tb ?_ | refine ll tb ?_ | refine lg tb ?_))
    refine sAd tb (r := ((text.length + 1 : Nat) : Int)) ?_
    try (first | refine gl tb ?_ | refine gg tb ?_ | refine ll tb ?_ | refine lg tb ?_); repeat ((first | refine G.condT rfl ?_ | refine G.condF rfl ?_ | refine sFa tb ?_ | refine sLd tb ?_ | refine sLa tb ?_ | refine sLen tb ?_ | refine sFd tb ?_ | refine sBd tb ?_ | refine sBa tb ?_); try (first | refine gl tb ?_ | refine gg tb ?_ | refine ll tb ?_ | refine lg tb ?_))
    rw [hzl]
    have hmul : IntKind.i64.wrap ((st.length : Int) * ((text.length + 1 : Nat) : Int)) = (N : Int) := by
      rw [← Int.natCast_mul, hN]
      exact wrap_i64 (by omega) (by omega)
    refine sAd tb (r := ((N : Nat) : Int)) (hp := hmul) ?_
    try (first | refine gl tb ?_ | refine gg tb ?_ | refine ll tb ?_ | refine lg tb ?_); repeat ((first | refine G.condT rfl ?_ | refine G.condF rfl ?_ | refine sFa tb ?_ | refine sLd tb ?_ | refine sLa tb ?_ | refine sLen tb ?_ | refine sFd tb ?_ | refine sBd tb ?_ | refine sBa tb ?_); try (first | refine gl tb ?_ | refine gg tb ?_ | refine ll tb ?_ | refine lg tb ?_))
    refine sMkS tb (z := .bool false) (bytes := 1) (m := ((N : Nat) : Int)) N (fun bv W2 ho2 hs2 hx2 hn2 => ?_)
    have e0 : (List.replicate N (Value.bool false)).map (fun u => [u]) = (List.replicate N false).map boC := by simp [boC]
    rw [e0] at ho2
    try (first | refine gl tb ?_ | refine gg tb ?_ | refine ll tb ?_ | refine lg tb ?_); repeat ((first | refine G.condT rfl ?_ | refine G.condF rfl ?_ | refine sFa tb ?_ | refine sLd tb ?_ | refine sLa tb ?_ | refine sLen tb ?_ | refine sFd tb ?_ | refine sBd tb ?_ | refine sBa tb ?_); try (first | refine gl tb ?_ | refine gg tb ?_ | refine ll tb ?_ | refine lg tb ?_))
    refine sBs' tb [bkC (.fork 0 0)] (fun kv W3 ho3 hs3 hx3 => ?_) (hkl := by simp [bkC])
    try (first | refine gl tb ?_ | refine gg tb ?_ | refine ll tb ?_ | refine lg tb ?_); repeat ((first | refine G.condT rfl ?_ | refine G.condF rfl ?_ | refine sFa tb ?_ | refine sLd tb ?_ | refine sLa tb ?_ | refine sLen tb ?_ | refine sFd tb ?_ | refine sBd tb ?_ | refine sBa tb ?_); try (first | refine gl tb ?_ | refine gg tb ?_ | refine ll tb ?_ | refine lg tb ?_))
    clear hsv' hso' hbx'
    have hsz0 := hx.size
    have hrm : RunM w W3 nv bv kv (Rx.rs0 st g text) := by
      have hb3 := ho3.sli
      refine ⟨(hx.trans hx2).trans hx3, (ho.to hx2).to hx3, ?_, ?_, ?_, ?_, ?_⟩
      · have := (ho2.to hx3).mono hx.size
        simpa [Rx.rs0, hN] using this
      · have := ho3.mono (Nat.le_trans hx.size hx2.size)
        simpa [Rx.rs0] using this
      · intro b e e'
        have h1 := (ho.lt b e).2
        rw [hn2] at e'
        cases e'
        omega
      · intro b e e'
        have h1 := (ho.lt b e).2
        have h2 := (ho3.lt b e').1
        have := hx2.size
        omega
      · intro b e e'
        rw [hn2] at e
        cases e
        have h2 := (ho3.lt _ e').1
        omega
    have hbx3 : ∀ W, Ext w W → Bx W pb [.slice (some sa) sn scap, .int .i64 g] := fun W hx => hbx.to hx
    have hok0 := Rx.rs0_ok (text := text) hw
    have hls0 := @Rx.rs0_less st g text
    rw [hN] at hls0
    have hrun : Rx.runP st g text = Rx.runL st text (2 * N + 2) (Rx.rs0 st g text) := by unfold Rx.runP Rx.rs0; rw [hN]
    refine (G.loop (fun x : Nat × Rx.Rs × Value => [(0, none, ptr pb), (1, none, S text), (6, none, nv), (8, none, .int .i64 ((text.length + 1 : Nat) : Int)), (9, none, bv), (10, none, x.2.2)])
      (fun x W => RunM w W nv bv x.2.2 x.2.1 ∧ Rx.OkR st g text x.2.1 ∧ 2 * Rx.unseen x.2.1 + x.2.1.stack.length < x.1 ∧ x.1 ≤ 2 * N + 2 ∧ Rx.runL st text x.1 x.2.1 = Rx.runP st g text) (fun x => x.1) (2 * N + 2, Rx.rs0 st g text, kv) (by repeat (first | exact Sub.nil _ | refine Sub.cons rfl ?_)) ⟨hrm, hok0, hls0, Nat.le_refl _, hrun.symm⟩ ?_)
    clear hrm ho3 hx3 ho2 hx2 hls0 hok0 hrun ho hx
    rintro ⟨n, ⟨notes, seen, stack⟩, kv⟩ W ⟨hrm, hok, hln, hnN, hR⟩
    simp only at hrm hok hln hnN hR
    have hks := hrm.k.sli
    simp only at hks
    try (first | refine gl tb ?_ | refine gg tb ?_ | refine ll tb ?_ | refine lg tb ?_); repeat ((first | refine G.condT rfl ?_ | refine G.condF rfl ?_ | refine sFa tb ?_ | refine sLd tb ?_ | refine sLa tb ?_ | refine sLen tb ?_ | refine sFd tb ?_ | refine sBd tb ?_ | refine sBa tb ?_); try (first | refine gl tb ?_ | refine gg tb ?_ | refine ll tb ?_ | refine lg tb ?_))
    first | refine G.condD rfl (fun hc => ?_) (fun hc => ?_) | refine G.condN rfl (fun hc => ?_) (fun hc => ?_) | refine G.cond rfl (fun hc => ?_) (fun hc => ?_)
    rotate_left
    · have he : stack = [] := by
        have : ¬ (0 < stack.length) := by
          rw [List.length_map] at hc
          omega
        exact List.eq_nil_of_length_eq_zero (by omega)
      subst he
      try (first | refine gl tb ?_ | refine gg tb ?_ | refine ll tb ?_ | refine lg tb ?_); repeat ((first | refine G.condT rfl ?_ | refine G.condF rfl ?_ | refine sFa tb ?_ | refine sLd tb ?_ | refine sLa tb ?_ | refine sLen tb ?_ | refine sFd tb ?_ | refine sBd tb ?_ | refine sBa tb ?_); try (first | refine gl tb ?_ | refine gg tb ?_ | refine ll tb ?_ | refine lg tb ?_))
      refine G.ret2 rfl rfl rfl rfl rfl ?_
      refine ⟨hrm.ext, .inl ⟨?_, rfl⟩⟩
      rw [← hR]
      cases n with
      | zero => omega
      | succ n => rw [Rx.runL]; rfl
    obtain ⟨l, b, rfl⟩ : ∃ l b, stack = l ++ [b] := by
      rcases List.eq_nil_or_concat stack with rfl | ⟨l, b, e⟩
      · simp at hc
      · exact ⟨l, b, by rw [e, List.concat_eq_append]⟩
    clear hc
    have hll : ((l ++ [b]).map bkC).length = l.length + 1 := by simp
    have hget : ((l ++ [b]).map bkC)[l.length]? = some (bkC b) := by simp
    have hkl : l.length ≤ 400004003 := by simp only [List.length_append, List.length_cons, List.length_nil] at hln; omega
    obtain ⟨n, rfl⟩ : ∃ m, n = m + 1 := ⟨n - 1, by omega⟩
    rw [Rx.runL] at hR
    simp only [List.getLast?_append, List.getLast?_singleton, Option.some_or, List.dropLast_concat] at hR
    refine G.skip ?_
    refine G.block ?_
    refine G.scope rfl rfl ?_
    try (first | refine gl tb ?_ | refine gg tb ?_ | refine ll tb ?_ | refine lg tb ?_); repeat ((first | refine G.condT rfl ?_ | refine G.condF rfl ?_ | refine sFa tb ?_ | refine sLd tb ?_ | refine sLa tb ?_ | refine sLen tb ?_ | refine sFd tb ?_ | refine sBd tb ?_ | refine sBa tb ?_); try (first | refine gl tb ?_ | refine gg tb ?_ | refine ll tb ?_ | refine lg tb ?_))
    rw [hll]
    refine sAd tb (r := ((l.length + 1 : Nat) : Int) - 1) ?_
    try (first | refine gl tb ?_ | refine gg tb ?_ | refine ll tb ?_ | refine lg tb ?_); repeat ((first | refine G.condT rfl ?_ | refine G.condF rfl ?_ | refine sFa tb ?_ | refine sLd tb ?_ | refine sLa tb ?_ | refine sLen tb ?_ | refine sFd tb ?_ | refine sBd tb ?_ | refine sBa tb ?_); try (first | refine gl tb ?_ | refine gg tb ?_ | refine ll tb ?_ | refine lg tb ?_))
    refine sIa tb l.length ?_ (hj := fun _ => ⟨by omega, by rw [hll]; omega⟩)
    try (first | refine gl tb ?_ | refine gg tb ?_ | refine ll tb ?_ | refine lg tb ?_); repeat ((first | refine G.condT rfl ?_ | refine G.condF rfl ?_ | refine sFa tb ?_ | refine sLd tb ?_ | refine sLa tb ?_ | refine sLen tb ?_ | refine sFd tb ?_ | refine sBd tb ?_ | refine sBa tb ?_); try (first | refine gl tb ?_ | refine gg tb ?_ | refine ll tb ?_ | refine lg tb ?_))
    refine sLa tb ?_ (us := bkC b) (hl := fun _ => by cases b <;> rfl)
    try (first | refine gl tb ?_ | refine gg tb ?_ | refine ll tb ?_ | refine lg tb ?_); repeat ((first | refine G.condT rfl ?_ | refine G.condF rfl ?_ | refine sFa tb ?_ | refine sLd tb ?_ | refine sLa tb ?_ | refine sLen tb ?_ | refine sFd tb ?_ | refine sBd tb ?_ | refine sBa tb ?_); try (first | refine gl tb ?_ | refine gg tb ?_ | refine ll tb ?_ | refine lg tb ?_))
    refine sAl tb (fun W1 hb1 hs1 hx1 => ?_)
    try (first | refine gl tb ?_ | refine gg tb ?_ | refine ll tb ?_ | refine lg tb ?_); repeat ((first | refine G.condT rfl ?_ | refine G.condF rfl ?_ | refine sFa tb ?_ | refine sLd tb ?_ | refine sLa tb ?_ | refine sLen tb ?_ | refine sFd tb ?_ | refine sBd tb ?_ | refine sBa tb ?_); try (first | refine gl tb ?_ | refine gg tb ?_ | refine ll tb ?_ | refine lg tb ?_))
    refine sSt tb (vs := bkC b) (fun W2 hb2 hw2 => ?_) (hs := by cases b <;> rfl) (h1 := by cases b <;> (intro c hc; simp only [bkC, List.mem_cons, List.not_mem_nil, or_false] at hc; rcases hc with rfl | rfl | rfl | rfl | rfl | rfl <;> rfl))
    have hx2 : Ext W W2 := Ext.ofKp hx1 hw2.kp (Nat.le_refl _)
    try (first | refine gl tb ?_ | refine gg tb ?_ | refine ll tb ?_ | refine lg tb ?_); repeat ((first | refine G.condT rfl ?_ | refine G.condF rfl ?_ | refine sFa tb ?_ | refine sLd tb ?_ | refine sLa tb ?_ | refine sLen tb ?_ | refine sFd tb ?_ | refine sBd tb ?_ | refine sBa tb ?_); try (first | refine gl tb ?_ | refine gg tb ?_ | refine ll tb ?_ | refine lg tb ?_))
    rw [hll]
    refine sAd tb (r := ((l.length + 1 : Nat) : Int) - 1) ?_
    try (first | refine gl tb ?_ | refine gg tb ?_ | refine ll tb ?_ | refine lg tb ?_); repeat ((first | refine G.condT rfl ?_ | refine G.condF rfl ?_ | refine sFa tb ?_ | refine sLd tb ?_ | refine sLa tb ?_ | refine sLen tb ?_ | refine sFd tb ?_ | refine sBd tb ?_ | refine sBa tb ?_); try (first | refine gl tb ?_ | refine gg tb ?_ | refine ll tb ?_ | refine lg tb ?_))
    refine GL.cons (Step.sliceVh tb l.length rfl (Op1.of rfl (by first | exact fun _ => rfl | exact fun h => h | exact fun h => bL h | exact fun h => bL (bL h) | exact fun h => bL (bL (bL h)))) (Op1.of rfl (by first | exact fun _ => rfl | exact fun h => h | exact fun h => bL h | exact fun h => bL (bL h) | exact fun h => bL (bL (bL h)))) rfl rfl (fun _ => ⟨_, hks⟩) (fun _ => ⟨by omega, by rw [hll]; omega⟩) rfl ?_)
    have hrm2 : RunM w W2 nv bv (subS kv 6 0 l.length) ⟨notes, seen, l⟩ := by
      have := (hrm.to hx2).cut (n := l.length) (by simp)
      simpa using this
    generalize hkv : subS kv 6 0 l.length = kv2 at hrm2
    have hxw := hrm2.ext
    clear hrm hks hget hll hb1 hs1 hx1 hw2 hx2
    have hok2 : ∀ nt : List Int, nt.length = notes.length → Rx.OkR st g text ⟨nt, seen, l⟩ := fun nt hnt => by
      have := Rx.okPop hok nt hnt
      simpa using this
    have hokb : Rx.okB st g text b := hok.stack b (by simp)
    have hln2 : 2 * Rx.unseen ⟨notes, seen, l⟩ + l.length < n := by
      have e : Rx.unseen ⟨notes, seen, l ++ [b]⟩ = Rx.unseen ⟨notes, seen, l⟩ := rfl
      rw [e] at hln
      simp only [List.length_append, List.length_cons, List.length_nil] at hln
      omega
    rcases b with ⟨pc, at_⟩ | ⟨slot, was⟩
    rotate_left
    · have hb2 : Bx W2 W.heap.size [.bool false, .int .i64 0, .int .i64 0, .int .i64 slot, .int .i64 was, .int .i64 0] := hb2
      simp only at hR
      have hsl : slot < notes.length := by rw [show notes.length = 2 * g + 2 from hok.notes]; exact hokb
      try (first | refine gl tb ?_ | refine gg tb ?_ | refine ll tb ?_ | refine lg tb ?_); repeat ((first | refine G.condT rfl ?_ | refine G.condF rfl ?_ | refine sFa tb ?_ | refine sLd tb ?_ | refine sLa tb ?_ | refine sLen tb ?_ | refine sFd tb ?_ | refine sBd tb ?_ | refine sBa tb ?_); try (first | refine gl tb ?_ | refine gg tb ?_ | refine ll tb ?_ | refine lg tb ?_))
      have hnl : (notes.map inC).length = notes.length := by simp
      have hns := hrm2.n.sli
      simp only at hns
      refine sIa tb slot ?_ (hj := fun _ => ⟨rfl, by rw [hnl]; exact hsl⟩)
      try (first | refine gl tb ?_ | refine gg tb ?_ | refine ll tb ?_ | refine lg tb ?_); repeat ((first | refine G.condT rfl ?_ | refine G.condF rfl ?_ | refine sFa tb ?_ | refine sLd tb ?_ | refine sLa tb ?_ | refine sLen tb ?_ | refine sFd tb ?_ | refine sBd tb ?_ | refine sBa tb ?_); try (first | refine gl tb ?_ | refine gg tb ?_ | refine ll tb ?_ | refine lg tb ?_))
      refine sStR tb (j := slot) (vs := [.int .i64 was]) hrm2.n (by simpa using hsl) (fun W3 ho3 hg3 => ?_)
      try (first | refine gl tb ?_ | refine gg tb ?_ | refine ll tb ?_ | refine lg tb ?_); repeat ((first | refine G.condT rfl ?_ | refine G.condF rfl ?_ | refine sFa tb ?_ | refine sLd tb ?_ | refine sLa tb ?_ | refine sLen tb ?_ | refine sFd tb ?_ | refine sBd tb ?_ | refine sBa tb ?_); try (first | refine gl tb ?_ | refine gg tb ?_ | refine ll tb ?_ | refine lg tb ?_))
      have hrm3 : RunM w W3 nv bv kv2 ⟨notes.set slot was, seen, l⟩ := hrm2.setN (by rw [List.map_set]; exact ho3) hg3
      exact G.lp (x := (n + 1, ⟨notes, seen, l ++ [.note slot was]⟩, kv)) (n, ⟨notes.set slot was, seen, l⟩, kv2) (by repeat (first | exact Sub.nil _ | refine Sub.cons rfl ?_)) ⟨hrm3, hok2 _ (by simp), hln2, by omega, hR⟩ (by simp only; omega)
    · have hb2 : Bx W2 W.heap.size [.bool true, .int .i64 pc, .int .i64 at_, .int .i64 0, .int .i64 0, .int .i64 0] := hb2
      simp only at hR
      obtain ⟨hpc, hat⟩ : pc < st.length ∧ at_ ≤ text.length := hokb
      try (first | refine gl tb ?_ | refine gg tb ?_ | refine ll tb ?_ | refine lg tb ?_); repeat ((first | refine G.condT rfl ?_ | refine G.condF rfl ?_ | refine sFa tb ?_ | refine sLd tb ?_ | refine sLa tb ?_ | refine sLen tb ?_ | refine sFd tb ?_ | refine sBd tb ?_ | refine sBa tb ?_); try (first | refine gl tb ?_ | refine gg tb ?_ | refine ll tb ?_ | refine lg tb ?_))
      refine G.regionM [(0, true), (1, true), (2, true), (3, true), (4, true), (5, true)] (Ext W2) (by kernel_rfl) (by kernel_rfl) rfl mixed (Ext.drew W2) rfl ?_
      try (refine mm tb ?_); repeat ((first | refine dFa tb ?_ | refine dLd tb ?_ | refine dLa tb ?_ | refine dLen tb ?_ | refine dFd tb ?_); try (refine mm tb ?_))
      refine GM.nil ?_
      have hrm3 := hrm2.to (Ext.drew W2)
      generalize W2.drew = W4 at hrm3
      clear hrm2 hb2
      have hM0 : 2 * Rx.unseen ⟨notes, seen, l⟩ + l.length ≤ 2 * Rx.unseen ⟨notes, seen, l⟩ + l.length := Nat.le_refl _
      generalize hM : 2 * Rx.unseen ⟨notes, seen, l⟩ + l.length = M at hln2
      have hu0 : Rx.unseen ⟨notes, seen, l⟩ < N + 1 := by
        have h1 : Rx.unseen ⟨notes, seen, l⟩ ≤ seen.length := List.count_le_length
        have h2 : seen.length = N := by rw [← hN]; exact hok.seen
        omega
      rw [hN] at hR
      refine G.seq ?_
      refine G.label ?_
      refine G.block ?_
      refine (G.loop (fun y : (Nat × Nat × Nat) × Rx.Rs × Value => [(0, none, ptr pb), (1, none, S text), (6, none, nv), (8, none, .int .i64 ((text.length + 1 : Nat) : Int)), (9, none, bv), (10, none, y.2.2), (12, none, .int .i64 y.1.2.1), (13, none, .int .i64 y.1.2.2)])
        (fun y W => RunM w W nv bv y.2.2 y.2.1 ∧ Rx.OkR st g text y.2.1 ∧ y.1.2.1 < st.length ∧ y.1.2.2 ≤ text.length ∧ Rx.unseen y.2.1 < y.1.1 ∧ 2 * Rx.unseen y.2.1 + y.2.1.stack.length ≤ M ∧ Rx.wayL st text y.1.1 y.1.2.1 y.1.2.2 y.2.1 = Rx.wayL st text (N + 1) pc at_ ⟨notes, seen, l⟩) (fun y => y.1.1)
        ((N + 1, pc, at_), ⟨notes, seen, l⟩, kv2) (by repeat (first | exact Sub.nil _ | refine Sub.cons rfl ?_)) ⟨hrm3, hok2 _ rfl, hpc, hat, hu0, by simp only; omega, rfl⟩ ?_)
      have hout : ∀ r', Rx.wayL st text (N + 1) pc at_ ⟨notes, seen, l⟩ = (r', none) → Rx.runL st text n r' = Rx.runP st g text := fun r' h => by rw [h] at hR; exact hR
      have hyes : ∀ r' z, Rx.wayL st text (N + 1) pc at_ ⟨notes, seen, l⟩ = (r', some z) → Rx.runP st g text = some z := fun r' z h => by rw [h] at hR; exact hR.symm
      clear hR hrm3 hok2 hu0 hpc hat
      rintro ⟨⟨f, pc', at'⟩, r, kv'⟩ W ⟨hrm, hokr, hp, ha, huf, hms, hL⟩
      simp only at hrm hokr hp ha huf hms hL
      show G _ _ [(0, none, ptr pb), (1, none, S text), (6, none, nv), (8, none, .int .i64 ((text.length + 1 : Nat) : Int)), (9, none, bv), (10, none, kv'), (12, none, .int .i64 pc'), (13, none, .int .i64 at')] W
      obtain ⟨f, rfl⟩ : ∃ m, f = m + 1 := ⟨f - 1, by omega⟩
      have hix := Rx.ix_lt hp ha
      rw [← show r.seen.length = st.length * (text.length + 1) from hokr.seen] at hix
      have hsn : r.seen.length = N := by rw [← hN]; exact hokr.seen
      have hpw := mul_le pc' (text.length + 1) 2000 100001 (by omega) (by omega)
      have hmulp : IntKind.i64.wrap ((pc' : Int) * ((text.length + 1 : Nat) : Int)) = ((pc' * (text.length + 1) : Nat) : Int) := by
        rw [← Int.natCast_mul]
        exact wrap_i64 (by omega) (by omega)
      have hIE : pc' * (text.length + 1) + at' = pc' * (text.length + 1) + at' := rfl
      generalize hpq : pc' * (text.length + 1) = q at hmulp hix hpw hIE
      have hsl : (r.seen.map boC).length = r.seen.length := by simp
      have hss := hrm.s.sli
      obtain ⟨bb, hbb⟩ : ∃ bb, r.seen[q + at']? = some bb := ⟨_, List.getElem?_eq_getElem hix⟩
      have hgs : (r.seen.map boC)[q + at']? = some (boC bb) := by rw [List.getElem?_map, hbb]; rfl
      have hgs' : (r.seen.map boC)[q + at']? = some [.bool bb] := hgs
      try (first | refine gl tb ?_ | refine gg tb ?_ | refine ll tb ?_ | refine lg tb ?_); repeat ((first | refine G.condT rfl ?_ | refine G.condF rfl ?_ | refine sFa tb ?_ | refine sLd tb ?_ | refine sLa tb ?_ | refine sLen tb ?_ | refine sFd tb ?_ | refine sBd tb ?_ | refine sBa tb ?_); try (first | refine gl tb ?_ | refine gg tb ?_ | refine ll tb ?_ | refine lg tb ?_))
      refine sAd tb (r := ((q : Nat) : Int)) (hp := hmulp) ?_
      try (first | refine gl tb ?_ | refine gg tb ?_ | refine ll tb ?_ | refine lg tb ?_); repeat ((first | refine G.condT rfl ?_ | refine G.condF rfl ?_ | refine sFa tb ?_ | refine sLd tb ?_ | refine sLa tb ?_ | refine sLen tb ?_ | refine sFd tb ?_ | refine sBd tb ?_ | refine sBa tb ?_); try (first | refine gl tb ?_ | refine gg tb ?_ | refine ll tb ?_ | refine lg tb ?_))
      refine sAd tb (a := ((q : Nat) : Int)) (b := ((at' : Nat) : Int)) (r := ((q + at' : Nat) : Int)) ?_
      try (first | refine gl tb ?_ | refine gg tb ?_ | refine ll tb ?_ | refine lg tb ?_); repeat ((first | refine G.condT rfl ?_ | refine G.condF rfl ?_ | refine sFa tb ?_ | refine sLd tb ?_ | refine sLa tb ?_ | refine sLen tb ?_ | refine sFd tb ?_ | refine sBd tb ?_ | refine sBa tb ?_); try (first | refine gl tb ?_ | refine gg tb ?_ | refine ll tb ?_ | refine lg tb ?_))
      refine sIa tb (q + at') ?_ (hj := fun _ => ⟨rfl, by rw [hsl]; exact hix⟩)
      try (first | refine gl tb ?_ | refine gg tb ?_ | refine ll tb ?_ | refine lg tb ?_); repeat ((first | refine G.condT rfl ?_ | refine G.condF rfl ?_ | refine sFa tb ?_ | refine sLd tb ?_ | refine sLa tb ?_ | refine sLen tb ?_ | refine sFd tb ?_ | refine sBd tb ?_ | refine sBa tb ?_); try (first | refine gl tb ?_ | refine gg tb ?_ | refine ll tb ?_ | refine lg tb ?_))
      have hback : ∀ (r2 : Rx.Rs) (W2 : World) (kv2 : Value), RunM w W2 nv bv kv2 r2 → Rx.wayP st text pc' at' r = .stop r2 → RunM w W2 nv bv kv2 r2 ∧ Rx.OkR st g text r2 ∧ 2 * Rx.unseen r2 + r2.stack.length < n ∧ n ≤ 2 * N + 2 ∧ Rx.runL st text n r2 = Rx.runP st g text := by
        intro r2 W2 kv2 h1 h2
        have hy := Rx.wayP_ok hw hokr hp ha
        rw [h2] at hy
        simp only at hy
        rw [Rx.wayL, h2] at hL
        exact ⟨h1, hy.1, by omega, by omega, hout r2 hL.symm⟩
      have hgo : ∀ (pc2 at2 : Nat) (r2 : Rx.Rs) (W2 : World) (kv2 : Value), RunM w W2 nv bv kv2 r2 → Rx.wayP st text pc' at' r = .go pc2 at2 r2 → RunM w W2 nv bv kv2 r2 ∧ Rx.OkR st g text r2 ∧ pc2 < st.length ∧ at2 ≤ text.length ∧ Rx.unseen r2 < f ∧ 2 * Rx.unseen r2 + r2.stack.length ≤ M ∧ Rx.wayL st text f pc2 at2 r2 = Rx.wayL st text (N + 1) pc at_ ⟨notes, seen, l⟩ := by
        intro pc2 at2 r2 W2 kv2 h1 h2
        have hy := Rx.wayP_ok hw hokr hp ha
        rw [h2] at hy
        simp only at hy
        rw [Rx.wayL, h2] at hL
        exact ⟨h1, hy.1, hy.2.1, hy.2.2.1, by omega, by omega, hL⟩
      cases bb
      rotate_left
      · try (first | refine gl tb ?_ | refine gg tb ?_ | refine ll tb ?_ | refine lg tb ?_); repeat ((first | refine G.condT rfl ?_ | refine G.condF rfl ?_ | refine sFa tb ?_ | refine sLd tb ?_ | refine sLa tb ?_ | refine sLen tb ?_ | refine sFd tb ?_ | refine sBd tb ?_ | refine sBa tb ?_); try (first | refine gl tb ?_ | refine gg tb ?_ | refine ll tb ?_ | refine lg tb ?_))
        exact G.lp (x := (n + 1, ⟨notes, seen, l ++ [.fork pc at_]⟩, kv)) (n, r, kv') (by repeat (first | exact Sub.nil _ | refine Sub.cons rfl ?_)) (hback r W kv' hrm (Rx.wayP_seen (by rw [hpq]; exact hbb))) (by simp only; omega)
      obtain ⟨k, hk⟩ : ∃ k, st[pc']? = some k := ⟨_, List.getElem?_eq_getElem hp⟩
      obtain ⟨pk, hpk⟩ : ∃ pk, ps[pc']? = some pk := ⟨_, List.getElem?_eq_getElem (by rw [hpl]; exact hp)⟩
      have hWP := Rx.wayP_go (text := text) (r := r) (pc := pc') (at_ := at') (by rw [hpq]; exact hbb) hk
      rw [hpq] at hWP
      have hkk := hw.kind _ _ hk
      have hnx := hw.next _ _ hk
      have hsl3 := hw.slot _ _ hk
      have hstp := htr _ _ _ hk hpk
      have hgst : (List.zipWith stC st ps)[pc']? = some (stC k pk) := by rw [List.getElem?_zipWith, hk, hpk]
      obtain ⟨kd, kl, kn, ks, ka, kb⟩ := k
      simp only at hkk hnx hsl3 hWP
      have hgst : (List.zipWith stC st ps)[pc']? = some [.int .i64 kd, pk, .int .i64 ks, .int .i64 ka, .int .i64 kb] := hgst
      try (first | refine gl tb ?_ | refine gg tb ?_ | refine ll tb ?_ | refine lg tb ?_); repeat ((first | refine G.condT rfl ?_ | refine G.condF rfl ?_ | refine sFa tb ?_ | refine sLd tb ?_ | refine sLa tb ?_ | refine sLen tb ?_ | refine sFd tb ?_ | refine sBd tb ?_ | refine sBa tb ?_); try (first | refine gl tb ?_ | refine gg tb ?_ | refine ll tb ?_ | refine lg tb ?_))
      refine sAd tb (r := ((q : Nat) : Int)) (hp := hmulp) ?_
      try (first | refine gl tb ?_ | refine gg tb ?_ | refine ll tb ?_ | refine lg tb ?_); repeat ((first | refine G.condT rfl ?_ | refine G.condF rfl ?_ | refine sFa tb ?_ | refine sLd tb ?_ | refine sLa tb ?_ | refine sLen tb ?_ | refine sFd tb ?_ | refine sBd tb ?_ | refine sBa tb ?_); try (first | refine gl tb ?_ | refine gg tb ?_ | refine ll tb ?_ | refine lg tb ?_))
      refine sAd tb (a := ((q : Nat) : Int)) (b := ((at' : Nat) : Int)) (r := ((q + at' : Nat) : Int)) ?_
      try (first | refine gl tb ?_ | refine gg tb ?_ | refine ll tb ?_ | refine lg tb ?_); repeat ((first | refine G.condT rfl ?_ | refine G.condF rfl ?_ | refine sFa tb ?_ | refine sLd tb ?_ | refine sLa tb ?_ | refine sLen tb ?_ | refine sFd tb ?_ | refine sBd tb ?_ | refine sBa tb ?_); try (first | refine gl tb ?_ | refine gg tb ?_ | refine ll tb ?_ | refine lg tb ?_))
      refine sIa tb (q + at') ?_ (hj := fun _ => ⟨rfl, by rw [hsl]; exact hix⟩)
      try (first | refine gl tb ?_ | refine gg tb ?_ | refine ll tb ?_ | refine lg tb ?_); repeat ((first | refine G.condT rfl ?_ | refine G.condF rfl ?_ | refine sFa tb ?_ | refine sLd tb ?_ | refine sLa tb ?_ | refine sLen tb ?_ | refine sFd tb ?_ | refine sBd tb ?_ | refine sBa tb ?_); try (first | refine gl tb ?_ | refine gg tb ?_ | refine ll tb ?_ | refine lg tb ?_))
      refine sStR tb (j := q + at') (vs := [.bool true]) hrm.s (by rw [hsl]; exact hix) (fun W2 ho2 hg2 => ?_)
      have hrm2 : RunM w W2 nv bv kv' ⟨r.notes, r.seen.set (q + at') true, r.stack⟩ := hrm.setS (by rw [List.map_set]; exact ho2) hg2
      have hx2 := hg2.ext0 hrm.ext
      have hbxw := hbx3 W2 hx2
      have hsow := hso.to hx2
      have hsvw := hsow.sli
      clear ho2 hg2 hgs hgs' hbb hss hrm
      try (first | refine gl tb ?_ | refine gg tb ?_ | refine ll tb ?_ | refine lg tb ?_); repeat ((first | refine G.condT rfl ?_ | refine G.condF rfl ?_ | refine sFa tb ?_ | refine sLd tb ?_ | refine sLa tb ?_ | refine sLen tb ?_ | refine sFd tb ?_ | refine sBd tb ?_ | refine sBa tb ?_); try (first | refine gl tb ?_ | refine gg tb ?_ | refine ll tb ?_ | refine lg tb ?_))
      refine sIa tb pc' ?_ (hj := fun _ => ⟨rfl, by rw [hzl]; exact hp⟩)
      have hrl : r.stack.length ≤ 400004003 := by omega
      rcases (show kd = 0 ∨ kd = 1 ∨ kd = 2 ∨ kd = 3 ∨ kd = 4 ∨ kd = 5 ∨ kd = 6 by omega) with rfl | rfl | rfl | rfl | rfl | rfl | rfl
      · simp only at hWP
        try (first | refine gl tb ?_ | refine gg tb ?_ | refine ll tb ?_ | refine lg tb ?_); repeat ((first | refine G.condT rfl ?_ | refine G.condF rfl ?_ | refine sFa tb ?_ | refine sLd tb ?_ | refine sLa tb ?_ | refine sLen tb ?_ | refine sFd tb ?_ | refine sBd tb ?_ | refine sBa tb ?_); try (first | refine gl tb ?_ | refine gg tb ?_ | refine ll tb ?_ | refine lg tb ?_))
        first | refine G.condD rfl (fun hc => ?_) (fun hc => ?_) | refine G.condN rfl (fun hc => ?_) (fun hc => ?_) | refine G.cond rfl (fun hc => ?_) (fun hc => ?_)
        · have hce : at' = text.length := by omega
          try (first | refine gl tb ?_ | refine gg tb ?_ | refine ll tb ?_ | refine lg tb ?_); repeat ((first | refine G.condT rfl ?_ | refine G.condF rfl ?_ | refine sFa tb ?_ | refine sLd tb ?_ | refine sLa tb ?_ | refine sLen tb ?_ | refine sFd tb ?_ | refine sBd tb ?_ | refine sBa tb ?_); try (first | refine gl tb ?_ | refine gg tb ?_ | refine ll tb ?_ | refine lg tb ?_))
          exact G.lp (x := (n + 1, ⟨notes, seen, l ++ [.fork pc at_]⟩, kv)) (n, ⟨r.notes, r.seen.set (q + at') true, r.stack⟩, kv') (by repeat (first | exact Sub.nil _ | refine Sub.cons rfl ?_)) (hback _ W2 _ hrm2 (by rw [hWP, if_pos hce])) (by simp only; omega)
        · have hce : ¬ at' = text.length := by omega
          have hlt : at' < text.length := by omega
          rw [if_neg hce] at hWP
          have hdl := Rx.dec_le hlt
          try (first | refine gl tb ?_ | refine gg tb ?_ | refine ll tb ?_ | refine lg tb ?_); repeat ((first | refine G.condT rfl ?_ | refine G.condF rfl ?_ | refine sFa tb ?_ | refine sLd tb ?_ | refine sLa tb ?_ | refine sLen tb ?_ | refine sFd tb ?_ | refine sBd tb ?_ | refine sBa tb ?_); try (first | refine gl tb ?_ | refine gg tb ?_ | refine ll tb ?_ | refine lg tb ?_))
          refine GL.cons (Step.sliceSl tb at' rfl (Op1.of rfl (by first | exact fun _ => rfl | exact fun h => h | exact fun h => bL h | exact fun h => bL (bL h) | exact fun h => bL (bL (bL h)))) (Op1.of rfl (by first | exact fun _ => rfl | exact fun h => h | exact fun h => bL h | exact fun h => bL (bL h) | exact fun h => bL (bL (bL h)))) rfl (fun _ => ⟨rfl, by omega⟩) rfl ?_)
          try (first | refine gl tb ?_ | refine gg tb ?_ | refine ll tb ?_ | refine lg tb ?_); repeat ((first | refine G.condT rfl ?_ | refine G.condF rfl ?_ | refine sFa tb ?_ | refine sLd tb ?_ | refine sLa tb ?_ | refine sLen tb ?_ | refine sFd tb ?_ | refine sBd tb ?_ | refine sBa tb ?_); try (first | refine gl tb ?_ | refine gg tb ?_ | refine ll tb ?_ | refine lg tb ?_))
          refine sCall c62 (decr_ok text at' W2 hlt (hT.to hx2)) ?_
          rintro _ W3 ⟨rfl, hx3⟩
          have hrm3 := hrm2.to hx3
          have hbxw := hbxw.to hx3
          have hsow := hsow.to hx3
          have hsvw := hsow.sli
          have hTr : Tr w A (.set kl kn) pk := by
            rcases hstp with ⟨_, h⟩ | ⟨h, _⟩
            · exact h
            · exact absurd rfl h
          generalize Rx.dec text at' = dd at hWP hdl ⊢
          obtain ⟨dc, dn⟩ := dd
          simp only at hWP hdl
          try (first | refine gl tb ?_ | refine gg tb ?_ | refine ll tb ?_ | refine lg tb ?_); repeat ((first | refine G.condT rfl ?_ | refine G.condF rfl ?_ | refine sFa tb ?_ | refine sLd tb ?_ | refine sLa tb ?_ | refine sLen tb ?_ | refine sFd tb ?_ | refine sBd tb ?_ | refine sBa tb ?_); try (first | refine gl tb ?_ | refine gg tb ?_ | refine ll tb ?_ | refine lg tb ?_))
          refine sLd tb (u := pk) ?_ (hc := fun _ => (hsvw.elem hgst).cell (i := 1) rfl)
          try (first | refine gl tb ?_ | refine gg tb ?_ | refine ll tb ?_ | refine lg tb ?_); repeat ((first | refine G.condT rfl ?_ | refine G.condF rfl ?_ | refine sFa tb ?_ | refine sLd tb ?_ | refine sLa tb ?_ | refine sLen tb ?_ | refine sFd tb ?_ | refine sBd tb ?_ | refine sBa tb ?_); try (first | refine gl tb ?_ | refine gg tb ?_ | refine ll tb ?_ | refine lg tb ?_))
          refine sCall c63 (has_ok W3 A kl kn pk dc (hTr.same fun b hb hA => ⟨(hx2.trans hx3).block b hb, hA⟩)) ?_
          rintro _ W4 ⟨rfl, hx4⟩
          have hrm4 := hrm3.to hx4
          try (first | refine gl tb ?_ | refine gg tb ?_ | refine ll tb ?_ | refine lg tb ?_); repeat ((first | refine G.condT rfl ?_ | refine G.condF rfl ?_ | refine sFa tb ?_ | refine sLd tb ?_ | refine sLa tb ?_ | refine sLen tb ?_ | refine sFd tb ?_ | refine sBd tb ?_ | refine sBa tb ?_); try (first | refine gl tb ?_ | refine gg tb ?_ | refine ll tb ?_ | refine lg tb ?_))
          first | refine G.condD rfl (fun hc => ?_) (fun hc => ?_) | refine G.condN rfl (fun hc => ?_) (fun hc => ?_) | refine G.cond rfl (fun hc => ?_) (fun hc => ?_)
          · have hch : ¬ Rx.has kl kn dc = true := by simpa using hc
            rw [if_neg hch] at hWP
            try (first | refine gl tb ?_ | refine gg tb ?_ | refine ll tb ?_ | refine lg tb ?_); repeat ((first | refine G.condT rfl ?_ | refine G.condF rfl ?_ | refine sFa tb ?_ | refine sLd tb ?_ | refine sLa tb ?_ | refine sLen tb ?_ | refine sFd tb ?_ | refine sBd tb ?_ | refine sBa tb ?_); try (first | refine gl tb ?_ | refine gg tb ?_ | refine ll tb ?_ | refine lg tb ?_))
            exact G.lp (x := (n + 1, ⟨notes, seen, l ++ [.fork pc at_]⟩, kv)) (n, ⟨r.notes, r.seen.set (q + at') true, r.stack⟩, kv') (by repeat (first | exact Sub.nil _ | refine Sub.cons rfl ?_)) (hback _ W4 _ hrm4 hWP) (by simp only; omega)
          · have hch : Rx.has kl kn dc = true := by simpa using hc
            rw [if_pos hch] at hWP
            have hnx := hnx (by decide)
            try (first | refine gl tb ?_ | refine gg tb ?_ | refine ll tb ?_ | refine lg tb ?_); repeat ((first | refine G.condT rfl ?_ | refine G.condF rfl ?_ | refine sFa tb ?_ | refine sLd tb ?_ | refine sLa tb ?_ | refine sLen tb ?_ | refine sFd tb ?_ | refine sBd tb ?_ | refine sBa tb ?_); try (first | refine gl tb ?_ | refine gg tb ?_ | refine ll tb ?_ | refine lg tb ?_))
            refine sAd tb (r := ((pc' + 1 : Nat) : Int)) (hp := wrap_i64 (n := ((pc' : Nat) : Int) + 1) (by omega) (by omega)) ?_
            try (first | refine gl tb ?_ | refine gg tb ?_ | refine ll tb ?_ | refine lg tb ?_); repeat ((first | refine G.condT rfl ?_ | refine G.condF rfl ?_ | refine sFa tb ?_ | refine sLd tb ?_ | refine sLa tb ?_ | refine sLen tb ?_ | refine sFd tb ?_ | refine sBd tb ?_ | refine sBa tb ?_); try (first | refine gl tb ?_ | refine gg tb ?_ | refine ll tb ?_ | refine lg tb ?_))
            refine sAd tb (a := ((at' : Nat) : Int)) (b := ((dn : Nat) : Int)) (r := ((at' + dn : Nat) : Int)) ?_
            try (first | refine gl tb ?_ | refine gg tb ?_ | refine ll tb ?_ | refine lg tb ?_); repeat ((first | refine G.condT rfl ?_ | refine G.condF rfl ?_ | refine sFa tb ?_ | refine sLd tb ?_ | refine sLa tb ?_ | refine sLen tb ?_ | refine sFd tb ?_ | refine sBd tb ?_ | refine sBa tb ?_); try (first | refine gl tb ?_ | refine gg tb ?_ | refine ll tb ?_ | refine lg tb ?_))
            exact G.lp (x := ((f + 1, pc', at'), r, kv')) ((f, pc' + 1, at' + dn), ⟨r.notes, r.seen.set (q + at') true, r.stack⟩, kv') (by repeat (first | exact Sub.nil _ | refine Sub.cons rfl ?_)) (hgo _ _ _ W4 _ hrm4 hWP) (by simp only; omega)
      · simp only at hWP
        have hnx := hnx (by decide)
        try (first | refine gl tb ?_ | refine gg tb ?_ | refine ll tb ?_ | refine lg tb ?_); repeat ((first | refine G.condT rfl ?_ | refine G.condF rfl ?_ | refine sFa tb ?_ | refine sLd tb ?_ | refine sLa tb ?_ | refine sLen tb ?_ | refine sFd tb ?_ | refine sBd tb ?_ | refine sBa tb ?_); try (first | refine gl tb ?_ | refine gg tb ?_ | refine ll tb ?_ | refine lg tb ?_))
        first | refine G.condD rfl (fun hc => ?_) (fun hc => ?_) | refine G.condN rfl (fun hc => ?_) (fun hc => ?_) | refine G.cond rfl (fun hc => ?_) (fun hc => ?_)
        · have hce : 0 < at' := by simpa using hc
          try (first | refine gl tb ?_ | refine gg tb ?_ | refine ll tb ?_ | refine lg tb ?_); repeat ((first | refine G.condT rfl ?_ | refine G.condF rfl ?_ | refine sFa tb ?_ | refine sLd tb ?_ | refine sLa tb ?_ | refine sLen tb ?_ | refine sFd tb ?_ | refine sBd tb ?_ | refine sBa tb ?_); try (first | refine gl tb ?_ | refine gg tb ?_ | refine ll tb ?_ | refine lg tb ?_))
          exact G.lp (x := (n + 1, ⟨notes, seen, l ++ [.fork pc at_]⟩, kv)) (n, ⟨r.notes, r.seen.set (q + at') true, r.stack⟩, kv') (by repeat (first | exact Sub.nil _ | refine Sub.cons rfl ?_)) (hback _ W2 _ hrm2 (by rw [hWP, if_pos hce])) (by simp only; omega)
        · have hce : ¬ 0 < at' := by simpa using hc
          rw [if_neg hce] at hWP
          try (first | refine gl tb ?_ | refine gg tb ?_ | refine ll tb ?_ | refine lg tb ?_); repeat ((first | refine G.condT rfl ?_ | refine G.condF rfl ?_ | refine sFa tb ?_ | refine sLd tb ?_ | refine sLa tb ?_ | refine sLen tb ?_ | refine sFd tb ?_ | refine sBd tb ?_ | refine sBa tb ?_); try (first | refine gl tb ?_ | refine gg tb ?_ | refine ll tb ?_ | refine lg tb ?_))
          refine sAd tb (r := ((pc' + 1 : Nat) : Int)) (hp := wrap_i64 (n := ((pc' : Nat) : Int) + 1) (by omega) (by omega)) ?_
          try (first | refine gl tb ?_ | refine gg tb ?_ | refine ll tb ?_ | refine lg tb ?_); repeat ((first | refine G.condT rfl ?_ | refine G.condF rfl ?_ | refine sFa tb ?_ | refine sLd tb ?_ | refine sLa tb ?_ | refine sLen tb ?_ | refine sFd tb ?_ | refine sBd tb ?_ | refine sBa tb ?_); try (first | refine gl tb ?_ | refine gg tb ?_ | refine ll tb ?_ | refine lg tb ?_))
          exact G.lp (x := ((f + 1, pc', at'), r, kv')) ((f, pc' + 1, at'), ⟨r.notes, r.seen.set (q + at') true, r.stack⟩, kv') (by repeat (first | exact Sub.nil _ | refine Sub.cons rfl ?_)) (hgo _ _ _ W2 _ hrm2 hWP) (by simp only; omega)
      · simp only at hWP
        have hnx := hnx (by decide)
        try (first | refine gl tb ?_ | refine gg tb ?_ | refine ll tb ?_ | refine lg tb ?_); repeat ((first | refine G.condT rfl ?_ | refine G.condF rfl ?_ | refine sFa tb ?_ | refine sLd tb ?_ | refine sLa tb ?_ | refine sLen tb ?_ | refine sFd tb ?_ | refine sBd tb ?_ | refine sBa tb ?_); try (first | refine gl tb ?_ | refine gg tb ?_ | refine ll tb ?_ | refine lg tb ?_))
        first | refine G.condD rfl (fun hc => ?_) (fun hc => ?_) | refine G.condN rfl (fun hc => ?_) (fun hc => ?_) | refine G.cond rfl (fun hc => ?_) (fun hc => ?_)
        · have hce : at' < text.length := by simpa using hc
          try (first | refine gl tb ?_ | refine gg tb ?_ | refine ll tb ?_ | refine lg tb ?_); repeat ((first | refine G.condT rfl ?_ | refine G.condF rfl ?_ | refine sFa tb ?_ | refine sLd tb ?_ | refine sLa tb ?_ | refine sLen tb ?_ | refine sFd tb ?_ | refine sBd tb ?_ | refine sBa tb ?_); try (first | refine gl tb ?_ | refine gg tb ?_ | refine ll tb ?_ | refine lg tb ?_))
          exact G.lp (x := (n + 1, ⟨notes, seen, l ++ [.fork pc at_]⟩, kv)) (n, ⟨r.notes, r.seen.set (q + at') true, r.stack⟩, kv') (by repeat (first | exact Sub.nil _ | refine Sub.cons rfl ?_)) (hback _ W2 _ hrm2 (by rw [hWP, if_pos hce])) (by simp only; omega)
        · have hce : ¬ at' < text.length := by simpa using hc
          rw [if_neg hce] at hWP
          try (first | refine gl tb ?_ | refine gg tb ?_ | refine ll tb ?_ | refine lg tb ?_); repeat ((first | refine G.condT rfl ?_ | refine G.condF rfl ?_ | refine sFa tb ?_ | refine sLd tb ?_ | refine sLa tb ?_ | refine sLen tb ?_ | refine sFd tb ?_ | refine sBd tb ?_ | refine sBa tb ?_); try (first | refine gl tb ?_ | refine gg tb ?_ | refine ll tb ?_ | refine lg tb ?_))
          refine sAd tb (r := ((pc' + 1 : Nat) : Int)) (hp := wrap_i64 (n := ((pc' : Nat) : Int) + 1) (by omega) (by omega)) ?_
          try (first | refine gl tb ?_ | refine gg tb ?_ | refine ll tb ?_ | refine lg tb ?_); repeat ((first | refine G.condT rfl ?_ | refine G.condF rfl ?_ | refine sFa tb ?_ | refine sLd tb ?_ | refine sLa tb ?_ | refine sLen tb ?_ | refine sFd tb ?_ | refine sBd tb ?_ | refine sBa tb ?_); try (first | refine gl tb ?_ | refine gg tb ?_ | refine ll tb ?_ | refine lg tb ?_))
          exact G.lp (x := ((f + 1, pc', at'), r, kv')) ((f, pc' + 1, at'), ⟨r.notes, r.seen.set (q + at') true, r.stack⟩, kv') (by repeat (first | exact Sub.nil _ | refine Sub.cons rfl ?_)) (hgo _ _ _ W2 _ hrm2 hWP) (by simp only; omega)
      · simp only at hWP
        have hnx := hnx (by decide)
        have hks := hsl3 rfl
        rw [← show r.notes.length = 2 * g + 2 from hokr.notes] at hks
        have hgn : (r.notes.map inC)[ks]? = some [.int .i64 (r.notes.getD ks 0)] := by
          rw [List.getElem?_map, List.getD_eq_getElem?_getD, List.getElem?_eq_getElem hks]; rfl
        try (first | refine gl tb ?_ | refine gg tb ?_ | refine ll tb ?_ | refine lg tb ?_); repeat ((first | refine G.condT rfl ?_ | refine G.condF rfl ?_ | refine sFa tb ?_ | refine sLd tb ?_ | refine sLa tb ?_ | refine sLen tb ?_ | refine sFd tb ?_ | refine sBd tb ?_ | refine sBa tb ?_); try (first | refine gl tb ?_ | refine gg tb ?_ | refine ll tb ?_ | refine lg tb ?_))
        have hxd := Ext.drew W2
        have hrmd := hrm2.to hxd
        have hsowd := hsow.to hxd
        have hnl : (r.notes.map inC).length = r.notes.length := by simp
        clear hsvw
        refine G.regionM [(0, true), (1, true), (2, true), (3, true), (4, true), (5, true), (6, true), (7, true), (8, true), (9, true), (10, true), (11, true), (12, true), (13, false), (14, false), (15, true)] (fun w' => Sli w' (.slice (some sa) sn scap) 5 (List.zipWith stC st ps) ∧ Sli w' nv 1 (r.notes.map inC)) (by kernel_rfl) (by kernel_rfl) rfl mixed ⟨hsowd.sli, hrmd.n.sli⟩ rfl ?_
        try (refine mm tb ?_); repeat ((first | refine dFa tb ?_ | refine dLd tb ?_ | refine dLa tb ?_ | refine dLen tb ?_ | refine dFd tb ?_); try (refine mm tb ?_))
        refine GM.read (fun w' hS => Step.load1 tb rfl (Op1.of rfl (by first | exact fun _ => rfl | exact fun h => h | exact fun h => bL h | exact fun h => bL (bL h) | exact fun h => bL (bL (bL h)))) rfl rfl (fun hc => (hS.1.elem hgst).cell (i := 2) rfl) rfl ⟨rfl, rfl⟩) rfl rfl ?_
        try (refine mm tb ?_); repeat ((first | refine dFa tb ?_ | refine dLd tb ?_ | refine dLa tb ?_ | refine dLen tb ?_ | refine dFd tb ?_); try (refine mm tb ?_))
        refine GM.read (fun w' hS => Step.load1 tb rfl (Op1.of rfl (by first | exact fun _ => rfl | exact fun h => h | exact fun h => bL h | exact fun h => bL (bL h) | exact fun h => bL (bL (bL h)))) rfl rfl (fun hc => (hS.1.elem hgst).cell (i := 2) rfl) rfl ⟨rfl, rfl⟩) rfl rfl ?_
        try (refine mm tb ?_); repeat ((first | refine dFa tb ?_ | refine dLd tb ?_ | refine dLa tb ?_ | refine dLen tb ?_ | refine dFd tb ?_); try (refine mm tb ?_))
        have hnsd := hrmd.n.sli
        simp only at hnsd
        refine dIa tb ks ?_ (hj := fun _ => ⟨rfl, by rw [hnl]; exact hks⟩)
        try (refine mm tb ?_); repeat ((first | refine dFa tb ?_ | refine dLd tb ?_ | refine dLa tb ?_ | refine dLen tb ?_ | refine dFd tb ?_); try (refine mm tb ?_))
        refine GM.read (fun w' hS => Step.load1 tb rfl (Op1.of rfl (by first | exact fun _ => rfl | exact fun h => h | exact fun h => bL h | exact fun h => bL (bL h) | exact fun h => bL (bL (bL h)))) rfl rfl (fun hc => (hS.2.elem hgn).c0 rfl) rfl ⟨rfl, rfl⟩) rfl rfl ?_
        try (refine mm tb ?_); repeat ((first | refine dFa tb ?_ | refine dLd tb ?_ | refine dLa tb ?_ | refine dLen tb ?_ | refine dFd tb ?_); try (refine mm tb ?_))
        refine GM.read (fun w' hS => Step.build tb rfl rfl rfl rfl rfl rfl rfl rfl rfl ⟨rfl, rfl⟩) rfl rfl ?_
        try (refine mm tb ?_); repeat ((first | refine dFa tb ?_ | refine dLd tb ?_ | refine dLa tb ?_ | refine dLen tb ?_ | refine dFd tb ?_); try (refine mm tb ?_))
        refine GM.eff (Step.buildSlice tb [bkC (.note ks (r.notes.getD ks 0))] rfl rfl rfl rfl rfl rfl (by rfl) rfl (by kernel_rfl) (by rfl) (by rfl) (by simp [bkC]) rfl ?_)
        intro u W5 ho5 hs5 hx5
        have hrm5 := hrmd.to hx5
        have hsow5 := hsowd.to hx5
        refine ⟨⟨hsow5.sli, hrm5.n.sli⟩, ?_⟩
        try (refine mm tb ?_); repeat ((first | refine dFa tb ?_ | refine dLd tb ?_ | refine dLa tb ?_ | refine dLen tb ?_ | refine dFd tb ?_); try (refine mm tb ?_))
        have hkl5 : ((r.stack).map bkC).length ≤ 400004003 := by simp only [List.length_map]; exact hrl
        refine GM.eff (Step.append2 tb rfl (Op1.of rfl (by first | exact fun _ => rfl | exact fun h => h | exact fun h => bL h | exact fun h => bL (bL h) | exact fun h => bL (bL (bL h)))) (Op1.of rfl (by first | exact fun _ => rfl | exact fun h => h | exact fun h => bL h | exact fun h => bL (bL h) | exact fun h => bL (bL (bL h)))) rfl rfl rfl (by rfl) (hrm5.k) (ho5.sli) (by intro y hy c hc; simp only [List.mem_cons, List.not_mem_nil, or_false] at hy; subst hy; simp only [bkC, List.mem_cons, List.not_mem_nil, or_false] at hc; rcases hc with rfl | rfl | rfl | rfl | rfl | rfl <;> rfl) (by simp only [List.length_map, List.length_append, List.length_cons, List.length_nil, List.length_take, List.length_drop]; omega) (by simp only [List.length_map, List.length_append, List.length_cons, List.length_nil, List.length_take, List.length_drop]; omega) (hrm5.ext.size) rfl ?_)
        intro kv6 W6 hv6 hg6 ho6
        have hrm6 := hrm5.app (x := .note ks (r.notes.getD ks 0)) hv6 hg6 ho6
        have hx6 := hg6.ext0 (hx2.trans (hxd.trans hx5))
        have hsow6 := hso.to hx6
        refine ⟨⟨hsow6.sli, hrm6.n.sli⟩, ?_⟩
        try (refine mm tb ?_); repeat ((first | refine dFa tb ?_ | refine dLd tb ?_ | refine dLa tb ?_ | refine dLen tb ?_ | refine dFd tb ?_); try (refine mm tb ?_))
        refine GM.nil ?_
        have hsv6 := hsow6.sli
        have hns6 := hrm6.n.sli
        simp only at hns6
        try (first | refine gl tb ?_ | refine gg tb ?_ | refine ll tb ?_ | refine lg tb ?_); repeat ((first | refine G.condT rfl ?_ | refine G.condF rfl ?_ | refine sFa tb ?_ | refine sLd tb ?_ | refine sLa tb ?_ | refine sLen tb ?_ | refine sFd tb ?_ | refine sBd tb ?_ | refine sBa tb ?_); try (first | refine gl tb ?_ | refine gg tb ?_ | refine ll tb ?_ | refine lg tb ?_))
        refine sLd tb (u := .int .i64 ks) ?_ (hc := fun _ => (hsv6.elem hgst).cell (i := 2) rfl)
        try (first | refine gl tb ?_ | refine gg tb ?_ | refine ll tb ?_ | refine lg tb ?_); repeat ((first | refine G.condT rfl ?_ | refine G.condF rfl ?_ | refine sFa tb ?_ | refine sLd tb ?_ | refine sLa tb ?_ | refine sLen tb ?_ | refine sFd tb ?_ | refine sBd tb ?_ | refine sBa tb ?_); try (first | refine gl tb ?_ | refine gg tb ?_ | refine ll tb ?_ | refine lg tb ?_))
        refine sIa tb ks ?_ (hj := fun _ => ⟨rfl, by rw [hnl]; exact hks⟩)
        try (first | refine gl tb ?_ | refine gg tb ?_ | refine ll tb ?_ | refine lg tb ?_); repeat ((first | refine G.condT rfl ?_ | refine G.condF rfl ?_ | refine sFa tb ?_ | refine sLd tb ?_ | refine sLa tb ?_ | refine sLen tb ?_ | refine sFd tb ?_ | refine sBd tb ?_ | refine sBa tb ?_); try (first | refine gl tb ?_ | refine gg tb ?_ | refine ll tb ?_ | refine lg tb ?_))
        refine sStR tb (j := ks) (vs := [.int .i64 at']) hrm6.n (by rw [hnl]; exact hks) (fun W7 ho7 hg7 => ?_)
        have hrm7 := hrm6.setN (l := r.notes.set ks (at' : Int)) (by rw [List.map_set]; exact ho7) hg7
        try (first | refine gl tb ?_ | refine gg tb ?_ | refine ll tb ?_ | refine lg tb ?_); repeat ((first | refine G.condT rfl ?_ | refine G.condF rfl ?_ | refine sFa tb ?_ | refine sLd tb ?_ | refine sLa tb ?_ | refine sLen tb ?_ | refine sFd tb ?_ | refine sBd tb ?_ | refine sBa tb ?_); try (first | refine gl tb ?_ | refine gg tb ?_ | refine ll tb ?_ | refine lg tb ?_))
        refine sAd tb (r := ((pc' + 1 : Nat) : Int)) (hp := wrap_i64 (n := ((pc' : Nat) : Int) + 1) (by omega) (by omega)) ?_
        try (first | refine gl tb ?_ | refine gg tb ?_ | refine ll tb ?_ | refine lg tb ?_); repeat ((first | refine G.condT rfl ?_ | refine G.condF rfl ?_ | refine sFa tb ?_ | refine sLd tb ?_ | refine sLa tb ?_ | refine sLen tb ?_ | refine sFd tb ?_ | refine sBd tb ?_ | refine sBa tb ?_); try (first | refine gl tb ?_ | refine gg tb ?_ | refine ll tb ?_ | refine lg tb ?_))
        exact G.lp (x := ((f + 1, pc', at'), r, kv')) ((f, pc' + 1, at'), ⟨r.notes.set ks at', r.seen.set (q + at') true, r.stack ++ [.note ks (r.notes.getD ks 0)]⟩, kv6) (by repeat (first | exact Sub.nil _ | refine Sub.cons rfl ?_)) (hgo _ _ _ W7 _ hrm7 hWP) (by simp only; omega)
      · simp only at hWP
        try (first | refine gl tb ?_ | refine gg tb ?_ | refine ll tb ?_ | refine lg tb ?_); repeat ((first | refine G.condT rfl ?_ | refine G.condF rfl ?_ | refine sFa tb ?_ | refine sLd tb ?_ | refine sLa tb ?_ | refine sLen tb ?_ | refine sFd tb ?_ | refine sBd tb ?_ | refine sBa tb ?_); try (first | refine gl tb ?_ | refine gg tb ?_ | refine ll tb ?_ | refine lg tb ?_))
        refine sLd tb (u := .int .i64 kb) ?_ (hc := fun _ => (hsvw.elem hgst).cell (i := 4) rfl)
        try (first | refine gl tb ?_ | refine gg tb ?_ | refine ll tb ?_ | refine lg tb ?_); repeat ((first | refine G.condT rfl ?_ | refine G.condF rfl ?_ | refine sFa tb ?_ | refine sLd tb ?_ | refine sLa tb ?_ | refine sLen tb ?_ | refine sFd tb ?_ | refine sBd tb ?_ | refine sBa tb ?_); try (first | refine gl tb ?_ | refine gg tb ?_ | refine ll tb ?_ | refine lg tb ?_))
        refine sBs' tb [bkC (.fork kb at')] (fun u W5 ho5 hs5 hx5 => ?_) (hkl := by simp [bkC]) (hfill := by kernel_rfl)
        have hrm5 := hrm2.to hx5
        have hx5' := hx2.trans hx5
        have hkl5 : ((r.stack).map bkC).length ≤ 400004003 := by simp only [List.length_map]; exact hrl
        try (first | refine gl tb ?_ | refine gg tb ?_ | refine ll tb ?_ | refine lg tb ?_); repeat ((first | refine G.condT rfl ?_ | refine G.condF rfl ?_ | refine sFa tb ?_ | refine sLd tb ?_ | refine sLa tb ?_ | refine sLen tb ?_ | refine sFd tb ?_ | refine sBd tb ?_ | refine sBa tb ?_); try (first | refine gl tb ?_ | refine gg tb ?_ | refine ll tb ?_ | refine lg tb ?_))
        refine GL.cons (Step.append2 tb rfl (Op1.of rfl (by first | exact fun _ => rfl | exact fun h => h | exact fun h => bL h | exact fun h => bL (bL h) | exact fun h => bL (bL (bL h)))) (Op1.of rfl (by first | exact fun _ => rfl | exact fun h => h | exact fun h => bL h | exact fun h => bL (bL h) | exact fun h => bL (bL (bL h)))) rfl rfl rfl (by rfl) (hrm5.k) (ho5.sli) (by intro y hy c hc; simp only [List.mem_cons, List.not_mem_nil, or_false] at hy; subst hy; simp only [bkC, List.mem_cons, List.not_mem_nil, or_false] at hc; rcases hc with rfl | rfl | rfl | rfl | rfl | rfl <;> rfl) (by simp only [List.length_map, List.length_append, List.length_cons, List.length_nil, List.length_take, List.length_drop]; omega) (by simp only [List.length_map, List.length_append, List.length_cons, List.length_nil, List.length_take, List.length_drop]; omega) (hrm5.ext.size) rfl ?_)
        intro kv6 W6 hv6 hg6 ho6
        have hrm6 := hrm5.app (x := .fork kb at') hv6 hg6 ho6
        have hx6 := hg6.ext0 hx5'
        have hsow6 := hso.to hx6
        have hsv6 := hsow6.sli
        clear hsvw
        try (first | refine gl tb ?_ | refine gg tb ?_ | refine ll tb ?_ | refine lg tb ?_); repeat ((first | refine G.condT rfl ?_ | refine G.condF rfl ?_ | refine sFa tb ?_ | refine sLd tb ?_ | refine sLa tb ?_ | refine sLen tb ?_ | refine sFd tb ?_ | refine sBd tb ?_ | refine sBa tb ?_); try (first | refine gl tb ?_ | refine gg tb ?_ | refine ll tb ?_ | refine lg tb ?_))
        refine sLd tb (u := .int .i64 ka) ?_ (hc := fun _ => (hsv6.elem hgst).cell (i := 3) rfl)
        try (first | refine gl tb ?_ | refine gg tb ?_ | refine ll tb ?_ | refine lg tb ?_); repeat ((first | refine G.condT rfl ?_ | refine G.condF rfl ?_ | refine sFa tb ?_ | refine sLd tb ?_ | refine sLa tb ?_ | refine sLen tb ?_ | refine sFd tb ?_ | refine sBd tb ?_ | refine sBa tb ?_); try (first | refine gl tb ?_ | refine gg tb ?_ | refine ll tb ?_ | refine lg tb ?_))
        exact G.lp (x := ((f + 1, pc', at'), r, kv')) ((f, ka, at'), ⟨r.notes, r.seen.set (q + at') true, r.stack ++ [.fork kb at']⟩, kv6) (by repeat (first | exact Sub.nil _ | refine Sub.cons rfl ?_)) (hgo _ _ _ W6 _ hrm6 hWP) (by simp only; omega)
      · simp only at hWP
        try (first | refine gl tb ?_ | refine gg tb ?_ | refine ll tb ?_ | refine lg tb ?_); repeat ((first | refine G.condT rfl ?_ | refine G.condF rfl ?_ | refine sFa tb ?_ | refine sLd tb ?_ | refine sLa tb ?_ | refine sLen tb ?_ | refine sFd tb ?_ | refine sBd tb ?_ | refine sBa tb ?_); try (first | refine gl tb ?_ | refine gg tb ?_ | refine ll tb ?_ | refine lg tb ?_))
        refine sLd tb (u := .int .i64 ka) ?_ (hc := fun _ => (hsvw.elem hgst).cell (i := 3) rfl)
        try (first | refine gl tb ?_ | refine gg tb ?_ | refine ll tb ?_ | refine lg tb ?_); repeat ((first | refine G.condT rfl ?_ | refine G.condF rfl ?_ | refine sFa tb ?_ | refine sLd tb ?_ | refine sLa tb ?_ | refine sLen tb ?_ | refine sFd tb ?_ | refine sBd tb ?_ | refine sBa tb ?_); try (first | refine gl tb ?_ | refine gg tb ?_ | refine ll tb ?_ | refine lg tb ?_))
        exact G.lp (x := ((f + 1, pc', at'), r, kv')) ((f, ka, at'), ⟨r.notes, r.seen.set (q + at') true, r.stack⟩, kv') (by repeat (first | exact Sub.nil _ | refine Sub.cons rfl ?_)) (hgo _ _ _ W2 _ hrm2 hWP) (by simp only; omega)
      · simp only at hWP
        try (first | refine gl tb ?_ | refine gg tb ?_ | refine ll tb ?_ | refine lg tb ?_); repeat ((first | refine G.condT rfl ?_ | refine G.condF rfl ?_ | refine sFa tb ?_ | refine sLd tb ?_ | refine sLa tb ?_ | refine sLen tb ?_ | refine sFd tb ?_ | refine sBd tb ?_ | refine sBa tb ?_); try (first | refine gl tb ?_ | refine gg tb ?_ | refine ll tb ?_ | refine lg tb ?_))
        first | refine G.condD rfl (fun hc => ?_) (fun hc => ?_) | refine G.condN rfl (fun hc => ?_) (fun hc => ?_) | refine G.cond rfl (fun hc => ?_) (fun hc => ?_)
        · have hce : at' < text.length := by simpa using hc
          try (first | refine gl tb ?_ | refine gg tb ?_ | refine ll tb ?_ | refine lg tb ?_); repeat ((first | refine G.condT rfl ?_ | refine G.condF rfl ?_ | refine sFa tb ?_ | refine sLd tb ?_ | refine sLa tb ?_ | refine sLen tb ?_ | refine sFd tb ?_ | refine sBd tb ?_ | refine sBa tb ?_); try (first | refine gl tb ?_ | refine gg tb ?_ | refine ll tb ?_ | refine lg tb ?_))
          exact G.lp (x := (n + 1, ⟨notes, seen, l ++ [.fork pc at_]⟩, kv)) (n, ⟨r.notes, r.seen.set (q + at') true, r.stack⟩, kv') (by repeat (first | exact Sub.nil _ | refine Sub.cons rfl ?_)) (hback _ W2 _ hrm2 (by rw [hWP, if_pos hce])) (by simp only; omega)
        · have hce : ¬ at' < text.length := by simpa using hc
          rw [if_neg hce] at hWP
          have hnl : (r.notes.map inC).length = 2 * g + 2 := by rw [List.length_map]; exact hokr.notes
          have hns := hrm2.n.sli
          simp only at hns
          try (first | refine gl tb ?_ | refine gg tb ?_ | refine ll tb ?_ | refine lg tb ?_); repeat ((first | refine G.condT rfl ?_ | refine G.condF rfl ?_ | refine sFa tb ?_ | refine sLd tb ?_ | refine sLa tb ?_ | refine sLen tb ?_ | refine sFd tb ?_ | refine sBd tb ?_ | refine sBa tb ?_); try (first | refine gl tb ?_ | refine gg tb ?_ | refine ll tb ?_ | refine lg tb ?_))
          refine sIa tb 0 ?_ (hj := fun _ => ⟨rfl, by rw [hnl]; omega⟩)
          try (first | refine gl tb ?_ | refine gg tb ?_ | refine ll tb ?_ | refine lg tb ?_); repeat ((first | refine G.condT rfl ?_ | refine G.condF rfl ?_ | refine sFa tb ?_ | refine sLd tb ?_ | refine sLa tb ?_ | refine sLen tb ?_ | refine sFd tb ?_ | refine sBd tb ?_ | refine sBa tb ?_); try (first | refine gl tb ?_ | refine gg tb ?_ | refine ll tb ?_ | refine lg tb ?_))
          refine sStR tb (j := 0) (vs := [.int .i64 0]) hrm2.n (by rw [hnl]; omega) (fun W3 ho3 hg3 => ?_)
          have hrm3 := hrm2.setN (l := r.notes.set 0 0) (by rw [List.map_set]; exact ho3) hg3
          have hns3 := hrm3.n.sli
          simp only at hns3
          have hnl3 : ((r.notes.set 0 0).map inC).length = 2 * g + 2 := by rw [List.length_map, List.length_set]; exact hokr.notes
          clear hns ho3
          try (first | refine gl tb ?_ | refine gg tb ?_ | refine ll tb ?_ | refine lg tb ?_); repeat ((first | refine G.condT rfl ?_ | refine G.condF rfl ?_ | refine sFa tb ?_ | refine sLd tb ?_ | refine sLa tb ?_ | refine sLen tb ?_ | refine sFd tb ?_ | refine sBd tb ?_ | refine sBa tb ?_); try (first | refine gl tb ?_ | refine gg tb ?_ | refine ll tb ?_ | refine lg tb ?_))
          refine sIa tb 1 ?_ (hj := fun _ => ⟨rfl, by rw [hnl3]; omega⟩)
          try (first | refine gl tb ?_ | refine gg tb ?_ | refine ll tb ?_ | refine lg tb ?_); repeat ((first | refine G.condT rfl ?_ | refine G.condF rfl ?_ | refine sFa tb ?_ | refine sLd tb ?_ | refine sLa tb ?_ | refine sLen tb ?_ | refine sFd tb ?_ | refine sBd tb ?_ | refine sBa tb ?_); try (first | refine gl tb ?_ | refine gg tb ?_ | refine ll tb ?_ | refine lg tb ?_))
          refine sStR tb (j := 1) (vs := [.int .i64 at']) hrm3.n (by rw [hnl3]; omega) (fun W4 ho4 hg4 => ?_)
          have hrm4 := hrm3.setN (l := (r.notes.set 0 0).set 1 (at' : Int)) (by rw [List.map_set]; exact ho4) hg4
          try (first | refine gl tb ?_ | refine gg tb ?_ | refine ll tb ?_ | refine lg tb ?_); repeat ((first | refine G.condT rfl ?_ | refine G.condF rfl ?_ | refine sFa tb ?_ | refine sLd tb ?_ | refine sLa tb ?_ | refine sLen tb ?_ | refine sFd tb ?_ | refine sBd tb ?_ | refine sBa tb ?_); try (first | refine gl tb ?_ | refine gg tb ?_ | refine ll tb ?_ | refine lg tb ?_))
          refine G.ret2 rfl rfl rfl rfl rfl ?_
          rw [Rx.wayL, hWP] at hL
          exact ⟨hrm4.ext, .inr ⟨_, nv, hyes _ _ hL.symm, hrm4.n, rfl⟩⟩
end Go.Proofs.YtbpkhgehchelhaaDoor
