/- labels.With, walked. -/
import Derived.Test.YtfffblopkaandaaDoorLIn
import Derived.Test.YtfffblopkaandaaDoorLNS
import Derived.Test.YtfffblopkaandaaDoorGL2
open Go Go.Vg Go.RowKit Go.Proofs Go.Proofs.YtfffblopkaandaaDoor
namespace Go.Proofs.YtfffblopkaandaaDoor
set_option linter.unusedSimpArgs false

theorem cmpB_neg (a b : List UInt8) : cmpB a b < 0 ↔ Op.bytesLess a b = true := by
  unfold cmpB
  split
  · rename_i h; simp [h]
  · rename_i h
    split
    · simp [h]
    · simp [h]
theorem twl_all {ls : List Lab} {name : List UInt8} {q : Nat} {x : Lab} (hx : (ls.takeWhile fun y : Lab => Op.bytesLess y.1 name)[q]? = some x) : Op.bytesLess x.1 name = true := by
  have hm := List.mem_of_getElem? hx
  have := List.all_eq_true.1 (List.all_takeWhile (l := ls) (p := fun y : Lab => Op.bytesLess y.1 name)) x hm
  simpa using this
theorem lt_lessN {ls : List Lab} {name : List UInt8} (h : sortedL ls) {q : Nat} (hq : q < ls.length) {x : Lab} (hx : ls[q]? = some x) : Op.bytesLess x.1 name = true ↔ q < lessN ls name := by
  have hd := dw_sorted (x := (name, [])) h
  have ht := List.takeWhile_append_dropWhile (p := fun y : Lab => Op.bytesLess y.1 name) (l := ls)
  unfold lessN
  constructor
  · intro hb
    apply Classical.byContradiction
    intro hc
    rw [← ht, List.getElem?_append_right (by omega)] at hx
    have := hd x (List.mem_of_getElem? hx)
    rw [hb] at this; cases this
  · intro hlt
    rw [← ht, List.getElem?_append_left hlt] at hx
    exact twl_all hx
theorem lessN_le (ls : List Lab) (name : List UInt8) : lessN ls name ≤ ls.length := (List.takeWhile_sublist _).length_le

theorem with1_ok (x : Lab) (name : List UInt8) (w : World) : Ret Tryd.prog 76 ⟨[.agg ⟨labC x⟩, S name]⟩ w fun r w' => r = .int .i64 (cmpB x.1 name) ∧ Ext w w' := by
  refine ret_of_G Tryd.func76 rfl Tryd.ntmps76 rfl ?_
  simp only [argEnv]
  try (first | refine gl tb ?_ | refine gg tb ?_ | refine ll tb ?_ | refine lg tb ?_); repeat ((first | refine G.condT rfl ?_ | refine G.condF rfl ?_ | refine sFa tb ?_ | refine sLd tb ?_ | refine sLa tb ?_ | refine sLen tb ?_ | refine sFd tb ?_ | refine sBd tb ?_ | refine sBa tb ?_); try (first | refine gl tb ?_ | refine gg tb ?_ | refine ll tb ?_ | refine lg tb ?_))
  refine sBox ?_
  intro w1 hb1 hs1 hx1
  try (first | refine gl tb ?_ | refine gg tb ?_ | refine ll tb ?_ | refine lg tb ?_); repeat ((first | refine G.condT rfl ?_ | refine G.condF rfl ?_ | refine sFa tb ?_ | refine sLd tb ?_ | refine sLa tb ?_ | refine sLen tb ?_ | refine sFd tb ?_ | refine sBd tb ?_ | refine sBa tb ?_); try (first | refine gl tb ?_ | refine gg tb ?_ | refine ll tb ?_ | refine lg tb ?_))
  refine sCall c58 (compare_ok x.1 name w1) ?_
  rintro _ _ ⟨rfl, rfl⟩
  try (first | refine gl tb ?_ | refine gg tb ?_ | refine ll tb ?_ | refine lg tb ?_); repeat ((first | refine G.condT rfl ?_ | refine G.condF rfl ?_ | refine sFa tb ?_ | refine sLd tb ?_ | refine sLa tb ?_ | refine sLen tb ?_ | refine sFd tb ?_ | refine sBd tb ?_ | refine sBa tb ?_); try (first | refine gl tb ?_ | refine gg tb ?_ | refine ll tb ?_ | refine lg tb ?_))
  refine G.ret1 rfl rfl rfl rfl ?_
  exact ⟨rfl, hx1⟩

theorem bsearch_ok (v : Value) (ls : List Lab) (name : List UInt8) (w : World) (hv : Labs w v ls) (hs : sortedL ls) (hn : ls.length ≤ 1000) :
    Ret Tryd.prog 75 ⟨[v, S name, .func (.func 76) #[] #[]]⟩ w fun r w' => ∃ b, r = .tuple ⟨[.int .i64 (lessN ls name), .bool b]⟩ ∧ Ext w w' := by
  have hle := lessN_le ls name
  refine ret_of_G Tryd.func75 rfl Tryd.ntmps75 rfl ?_
  simp only [argEnv]
  try (first | refine gl tb ?_ | refine gg tb ?_ | refine ll tb ?_ | refine lg tb ?_); repeat ((first | refine G.condT rfl ?_ | refine G.condF rfl ?_ | refine sFa tb ?_ | refine sLd tb ?_ | refine sLa tb ?_ | refine sLen tb ?_ | refine sFd tb ?_ | refine sBd tb ?_ | refine sBa tb ?_); try (first | refine gl tb ?_ | refine gg tb ?_ | refine ll tb ?_ | refine lg tb ?_))
  rw [List.length_map]
  try (first | refine gl tb ?_ | refine gg tb ?_ | refine ll tb ?_ | refine lg tb ?_); repeat ((first | refine G.condT rfl ?_ | refine G.condF rfl ?_ | refine sFa tb ?_ | refine sLd tb ?_ | refine sLa tb ?_ | refine sLen tb ?_ | refine sFd tb ?_ | refine sBd tb ?_ | refine sBa tb ?_); try (first | refine gl tb ?_ | refine gg tb ?_ | refine ll tb ?_ | refine lg tb ?_))
  refine (G.loop (fun x : Nat × Nat => [(0, none, v), (1, none, S name), (2, none, .func (.func 76) #[] #[]), (8, none, .int .i64 ls.length), (9, none, .int .i64 x.1), (10, none, .int .i64 x.2)]) (fun x w' => Ext w w' ∧ x.1 ≤ lessN ls name ∧ lessN ls name ≤ x.2 ∧ x.2 ≤ ls.length) (fun x => x.2 - x.1) (0, ls.length) (by repeat (first | exact Sub.nil _ | refine Sub.cons rfl ?_)) ⟨Ext.refl _, by simp, hle, Nat.le_refl _⟩ ?_)
  rintro ⟨i, j⟩ w1 ⟨hx1, hi, hj, hjn⟩
  simp only at hi hj hjn ⊢
  have hv1 := hv.to hx1
  try (first | refine gl tb ?_ | refine gg tb ?_ | refine ll tb ?_ | refine lg tb ?_); repeat ((first | refine G.condT rfl ?_ | refine G.condF rfl ?_ | refine sFa tb ?_ | refine sLd tb ?_ | refine sLa tb ?_ | refine sLen tb ?_ | refine sFd tb ?_ | refine sBd tb ?_ | refine sBa tb ?_); try (first | refine gl tb ?_ | refine gg tb ?_ | refine ll tb ?_ | refine lg tb ?_))
  first | refine G.condD rfl (fun hc => ?_) (fun hc => ?_) | refine G.condN rfl (fun hc => ?_) (fun hc => ?_) | refine G.cond rfl (fun hc => ?_) (fun hc => ?_)
  · have hij : i < j := by omega
    obtain ⟨h, hh⟩ : ∃ h, h = (i + j) / 2 := ⟨_, rfl⟩
    have hih : i ≤ h ∧ h < j := by omega
    have hlt : h < ls.length := by omega
    obtain ⟨x, hmem, hget, -, -, hgl⟩ := Labs.at hlt
    have hp := lt_lessN (name := name) hs hlt hgl
    try (first | refine gl tb ?_ | refine gg tb ?_ | refine ll tb ?_ | refine lg tb ?_); repeat ((first | refine G.condT rfl ?_ | refine G.condF rfl ?_ | refine sFa tb ?_ | refine sLd tb ?_ | refine sLa tb ?_ | refine sLen tb ?_ | refine sFd tb ?_ | refine sBd tb ?_ | refine sBa tb ?_); try (first | refine gl tb ?_ | refine gg tb ?_ | refine ll tb ?_ | refine lg tb ?_))
    refine sAd tb ?_
    refine sCv tb (r := ((i + j : Nat) : Int)) ?_ (hr := (wrap_u64 (by omega) (by omega)).trans (by omega))
    refine sShr (a := ((i + j : Nat) : Int)) (n := 1) (r := (h : Int)) (by rw [hh]; omega) ?_
    refine sCv tb (r := (h : Int)) ?_ (hr := wrap_i64 (by omega) (by omega))
    try (first | refine gl tb ?_ | refine gg tb ?_ | refine ll tb ?_ | refine lg tb ?_); repeat ((first | refine G.condT rfl ?_ | refine G.condF rfl ?_ | refine sFa tb ?_ | refine sLd tb ?_ | refine sLa tb ?_ | refine sLen tb ?_ | refine sFd tb ?_ | refine sBd tb ?_ | refine sIa tb h ?_); try (first | refine gl tb ?_ | refine gg tb ?_ | refine ll tb ?_ | refine lg tb ?_))
    refine GL.cons (Step.callC rfl (Op1.of rfl (by first | exact fun _ => rfl | exact fun h => h | exact fun h => bL h | exact fun h => bL (bL h) | exact fun h => bL (bL (bL h)))) rfl rfl c76 rfl (with1_ok x name w1) ?_)
    rintro _ w2 ⟨rfl, hx2⟩
    try (first | refine gl tb ?_ | refine gg tb ?_ | refine ll tb ?_ | refine lg tb ?_); repeat ((first | refine G.condT rfl ?_ | refine G.condF rfl ?_ | refine sFa tb ?_ | refine sLd tb ?_ | refine sLa tb ?_ | refine sLen tb ?_ | refine sFd tb ?_ | refine sBd tb ?_ | refine sBa tb ?_); try (first | refine gl tb ?_ | refine gg tb ?_ | refine ll tb ?_ | refine lg tb ?_))
    first | refine G.condD rfl (fun hc => ?_) (fun hc => ?_) | refine G.condN rfl (fun hc => ?_) (fun hc => ?_) | refine G.cond rfl (fun hc => ?_) (fun hc => ?_)
    · have hlt2 := hp.1 ((cmpB_neg _ _).1 hc)
      try (first | refine gl tb ?_ | refine gg tb ?_ | refine ll tb ?_ | refine lg tb ?_); repeat ((first | refine G.condT rfl ?_ | refine G.condF rfl ?_ | refine sFa tb ?_ | refine sLd tb ?_ | refine sLa tb ?_ | refine sLen tb ?_ | refine sFd tb ?_ | refine sBd tb ?_ | refine sBa tb ?_); try (first | refine gl tb ?_ | refine gg tb ?_ | refine ll tb ?_ | refine lg tb ?_))
      refine sAd tb ?_
      try (first | refine gl tb ?_ | refine gg tb ?_ | refine ll tb ?_ | refine lg tb ?_); repeat ((first | refine G.condT rfl ?_ | refine G.condF rfl ?_ | refine sFa tb ?_ | refine sLd tb ?_ | refine sLa tb ?_ | refine sLen tb ?_ | refine sFd tb ?_ | refine sBd tb ?_ | refine sBa tb ?_); try (first | refine gl tb ?_ | refine gg tb ?_ | refine ll tb ?_ | refine lg tb ?_))
      exact G.lp (x := (i, j)) (h + 1, j) (by repeat (first | exact Sub.nil _ | refine Sub.cons rfl ?_)) ⟨hx1.trans hx2, by simp only; omega, hj, hjn⟩ (by simp only; omega)
    · have hge : lessN ls name ≤ h := by
        apply Classical.byContradiction
        intro hcc
        exact hc ((cmpB_neg _ _).2 (hp.2 (by omega)))
      try (first | refine gl tb ?_ | refine gg tb ?_ | refine ll tb ?_ | refine lg tb ?_); repeat ((first | refine G.condT rfl ?_ | refine G.condF rfl ?_ | refine sFa tb ?_ | refine sLd tb ?_ | refine sLa tb ?_ | refine sLen tb ?_ | refine sFd tb ?_ | refine sBd tb ?_ | refine sBa tb ?_); try (first | refine gl tb ?_ | refine gg tb ?_ | refine ll tb ?_ | refine lg tb ?_))
      exact G.lp (x := (i, j)) (i, h) (by repeat (first | exact Sub.nil _ | refine Sub.cons rfl ?_)) ⟨hx1.trans hx2, hi, hge, by simp only; omega⟩ (by simp only; omega)
  · obtain rfl : i = lessN ls name := by omega
    obtain ⟨p, hp⟩ : ∃ p, p = lessN ls name := ⟨_, rfl⟩
    rw [← hp] at hi hj ⊢
    try (first | refine gl tb ?_ | refine gg tb ?_ | refine ll tb ?_ | refine lg tb ?_); repeat ((first | refine G.condT rfl ?_ | refine G.condF rfl ?_ | refine sFa tb ?_ | refine sLd tb ?_ | refine sLa tb ?_ | refine sLen tb ?_ | refine sFd tb ?_ | refine sBd tb ?_ | refine sBa tb ?_); try (first | refine gl tb ?_ | refine gg tb ?_ | refine ll tb ?_ | refine lg tb ?_))
    by_cases hlt : p < ls.length
    · obtain ⟨x, hmem, hget, -, -, hgl⟩ := Labs.at hlt
      try (first | refine gl tb ?_ | refine gg tb ?_ | refine ll tb ?_ | refine lg tb ?_); repeat ((first | refine G.condT rfl ?_ | refine G.condF rfl ?_ | refine sFa tb ?_ | refine sLd tb ?_ | refine sLa tb ?_ | refine sLen tb ?_ | refine sFd tb ?_ | refine sBd tb ?_ | refine sIa tb p ?_); try (first | refine gl tb ?_ | refine gg tb ?_ | refine ll tb ?_ | refine lg tb ?_))
      refine GL.cons (Step.callXC rfl (Op1.of rfl (by first | exact fun _ => rfl | exact fun h => h | exact fun h => bL h | exact fun h => bL (bL h) | exact fun h => bL (bL (bL h)))) rfl (by repeat (first | exact OpL.nil | refine OpL.cons (Op1.of rfl (by first | exact fun _ => rfl | exact fun h => h | exact fun h => bL h | exact fun h => bL (bL h) | exact fun h => bL (bL (bL h)))) ?_)) c76 rfl (fun _ => with1_ok x name w1) ?_ (vs := [.agg ⟨labC x⟩, S name]))
      intro w2 hx2
      try (first | refine gl tb ?_ | refine gg tb ?_ | refine ll tb ?_ | refine lg tb ?_); repeat ((first | refine G.condT rfl ?_ | refine G.condF rfl ?_ | refine sFa tb ?_ | refine sLd tb ?_ | refine sLa tb ?_ | refine sLen tb ?_ | refine sFd tb ?_ | refine sBd tb ?_ | refine sBa tb ?_); try (first | refine gl tb ?_ | refine gg tb ?_ | refine ll tb ?_ | refine lg tb ?_))
      refine G.ret2 rfl rfl rfl rfl rfl ?_
      exact ⟨_, rfl, hx1.trans hx2⟩
    · rw [show decide ((p : Int) < ls.length) = false from decide_eq_false (by omega)]
      refine GL.cons (Step.off (v := .bool false) rfl (of_decide_eq_true rfl) rfl ?_)
      refine GL.cons (Step.off (v := .bool false) rfl (of_decide_eq_true rfl) rfl ?_)
      try (first | refine gl tb ?_ | refine gg tb ?_ | refine ll tb ?_ | refine lg tb ?_); repeat ((first | refine G.condT rfl ?_ | refine G.condF rfl ?_ | refine sFa tb ?_ | refine sLd tb ?_ | refine sLa tb ?_ | refine sLen tb ?_ | refine sFd tb ?_ | refine sBd tb ?_ | refine sBa tb ?_); try (first | refine gl tb ?_ | refine gg tb ?_ | refine ll tb ?_ | refine lg tb ?_))
      refine GL.cons (Step.off (v := .bool false) rfl (of_decide_eq_true rfl) rfl ?_)
      refine GL.cons (Step.off (v := .bool false) rfl (of_decide_eq_true rfl) rfl ?_)
      try (first | refine gl tb ?_ | refine gg tb ?_ | refine ll tb ?_ | refine lg tb ?_); repeat ((first | refine G.condT rfl ?_ | refine G.condF rfl ?_ | refine sFa tb ?_ | refine sLd tb ?_ | refine sLa tb ?_ | refine sLen tb ?_ | refine sFd tb ?_ | refine sBd tb ?_ | refine sBa tb ?_); try (first | refine gl tb ?_ | refine gg tb ?_ | refine ll tb ?_ | refine lg tb ?_))
      refine G.ret2 rfl rfl rfl rfl rfl ?_
      exact ⟨_, rfl, hx1⟩
end Go.Proofs.YtfffblopkaandaaDoor
