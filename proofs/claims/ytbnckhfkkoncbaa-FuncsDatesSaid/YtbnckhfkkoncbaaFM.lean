/- The law FuncsKnown, walked. -/
import Derived.Test.YtbnckhfkkoncbaaFL
open Go Go.Vg Go.RowKit Go.Proofs Go.Proofs.Ytbnckhfkkoncbaa
namespace Go.Proofs.Ytbnckhfkkoncbaa
set_option linter.unusedSimpArgs false

def strC (s : List UInt8) : List Value := [S s]
abbrev Strs (w : World) (v : Value) (ns : List (List UInt8)) : Prop := Sli w v 1 (ns.map strC)
abbrev SO (w : World) (B : Nat) (v : Value) (ss : List (List UInt8)) : Prop := Owns w B v 9 1 (ss.map strC)
theorem str1 (ns : List (List UInt8)) : ∀ y ∈ ns.map strC, ∀ c ∈ y, c.oneCell' = true := by
  intro y hy c hc
  obtain ⟨x, _, rfl⟩ := List.mem_map.1 hy
  simp only [strC, List.mem_cons, List.not_mem_nil, or_false] at hc
  subst hc; rfl
theorem strLen (l : List (List UInt8)) : ∀ y ∈ l.map strC, y.length = 1 := by
  intro y hy
  obtain ⟨x, _, rfl⟩ := List.mem_map.1 hy
  rfl
/-- the document's names -/
def docN : List (List UInt8) := [
  [97, 98, 115],
  [99, 101, 105, 108],
  [102, 108, 111, 111, 114],
  [115, 113, 114, 116],
  [115, 103, 110],
  [114, 111, 117, 110, 100],
  [99, 108, 97, 109, 112],
  [99, 108, 97, 109, 112, 95, 109, 105, 110],
  [99, 108, 97, 109, 112, 95, 109, 97, 120],
  [114, 97, 116, 101],
  [105, 110, 99, 114, 101, 97, 115, 101],
  [100, 101, 108, 116, 97],
  [105, 114, 97, 116, 101],
  [105, 100, 101, 108, 116, 97],
  [114, 101, 115, 101, 116, 115],
  [99, 104, 97, 110, 103, 101, 115],
  [97, 118, 103, 95, 111, 118, 101, 114, 95, 116, 105, 109, 101],
  [115, 117, 109, 95, 111, 118, 101, 114, 95, 116, 105, 109, 101],
  [109, 105, 110, 95, 111, 118, 101, 114, 95, 116, 105, 109, 101],
  [109, 97, 120, 95, 111, 118, 101, 114, 95, 116, 105, 109, 101],
  [99, 111, 117, 110, 116, 95, 111, 118, 101, 114, 95, 116, 105, 109, 101],
  [108, 97, 115, 116, 95, 111, 118, 101, 114, 95, 116, 105, 109, 101],
  [112, 114, 101, 115, 101, 110, 116, 95, 111, 118, 101, 114, 95, 116, 105, 109, 101],
  [115, 116, 100, 100, 101, 118, 95, 111, 118, 101, 114, 95, 116, 105, 109, 101],
  [115, 116, 100, 118, 97, 114, 95, 111, 118, 101, 114, 95, 116, 105, 109, 101],
  [97, 98, 115, 101, 110, 116, 95, 111, 118, 101, 114, 95, 116, 105, 109, 101],
  [113, 117, 97, 110, 116, 105, 108, 101, 95, 111, 118, 101, 114, 95, 116, 105, 109, 101],
  [104, 105, 115, 116, 111, 103, 114, 97, 109, 95, 113, 117, 97, 110, 116, 105, 108, 101],
  [108, 97, 98, 101, 108, 95, 114, 101, 112, 108, 97, 99, 101],
  [108, 97, 98, 101, 108, 95, 106, 111, 105, 110],
  [115, 111, 114, 116],
  [115, 111, 114, 116, 95, 100, 101, 115, 99],
  [97, 98, 115, 101, 110, 116],
  [116, 105, 109, 101, 115, 116, 97, 109, 112],
  [115, 99, 97, 108, 97, 114],
  [118, 101, 99, 116, 111, 114],
  [116, 105, 109, 101],
  [109, 105, 110, 117, 116, 101],
  [104, 111, 117, 114],
  [100, 97, 121, 95, 111, 102, 95, 119, 101, 101, 107],
  [100, 97, 121, 95, 111, 102, 95, 109, 111, 110, 116, 104],
  [100, 97, 121, 95, 111, 102, 95, 121, 101, 97, 114],
  [100, 97, 121, 115, 95, 105, 110, 95, 109, 111, 110, 116, 104],
  [109, 111, 110, 116, 104],
  [121, 101, 97, 114]]
theorem ite_len {c : Prop} [Decidable c] {x y : List Int × Int × Int × Bool} (hx : x.1.length ≤ 5) (hy : y.1.length ≤ 5) : (if c then x else y).1.length ≤ 5 := by split <;> assumption
theorem knownP_len (s : List UInt8) : (knownP s).1.length ≤ 5 := by
  unfold knownP
  repeat (first | refine ite_len (by decide) ?_ | decide)
set_option maxHeartbeats 4000000 in
set_option maxRecDepth 20000 in
theorem known_law (v : Value) (ns : List (List UInt8)) (w : World) (hv : Strs w v ns) :
    Ret Try.prog 6 ⟨[v]⟩ w fun r w' => r = .bool true ∧ Ext w w' := by
  have hbd := Sli.bound hv
  rw [List.length_map] at hbd
  have hlen : (ns.map strC).length = ns.length := List.length_map ..
  refine ret_of_G Try.func6 rfl Try.ntmps6 rfl ?_
  simp only [argEnv]
  try (first | refine gl tb ?_ | refine gg tb ?_ | refine ll tb ?_ | refine lg tb ?_); repeat ((first | refine G.condT rfl ?_ | refine G.condF rfl ?_ | refine sFa tb ?_ | refine sLd tb ?_ | refine sLa tb ?_ | refine sLen tb ?_ | refine sFd tb ?_ | refine sBd tb ?_ | refine sBa tb ?_); try (first | refine gl tb ?_ | refine gg tb ?_ | refine ll tb ?_ | refine lg tb ?_))
  refine sBs' tb (docN.map strC) ?_ (hkl := strLen _)
  intro v1 w1 ho1 hs1 hx1
  try (first | refine gl tb ?_ | refine gg tb ?_ | refine ll tb ?_ | refine lg tb ?_); repeat ((first | refine G.condT rfl ?_ | refine G.condF rfl ?_ | refine sFa tb ?_ | refine sLd tb ?_ | refine sLa tb ?_ | refine sLen tb ?_ | refine sFd tb ?_ | refine sBd tb ?_ | refine sBa tb ?_); try (first | refine gl tb ?_ | refine gg tb ?_ | refine ll tb ?_ | refine lg tb ?_))
  refine (G.loop (fun x : Nat × Value => [(0, none, v), (3, none, x.2), (4, none, .int .i64 x.1)]) (fun x W => Ext w W ∧ x.1 ≤ ns.length ∧ x.1 ≤ 40 ∧ SO W w.heap.size x.2 (docN ++ ns.take x.1)) (fun x => 40 - x.1) (0, v1) (by repeat (first | exact Sub.nil _ | refine Sub.cons rfl ?_)) ⟨hx1, by simp, by simp, by simpa using ho1⟩ ?_)
  clear ho1 hs1 hx1 v1 w1
  rintro ⟨k, u⟩ W ⟨hx, hk, hk2, hu⟩
  simp only at hk hk2 hu ⊢
  have hvW := hv.to hx
  try (first | refine gl tb ?_ | refine gg tb ?_ | refine ll tb ?_ | refine lg tb ?_); repeat ((first | refine G.condT rfl ?_ | refine G.condF rfl ?_ | refine sFa tb ?_ | refine sLd tb ?_ | refine sLa tb ?_ | refine sLen tb ?_ | refine sFd tb ?_ | refine sBd tb ?_ | refine sBa tb ?_); try (first | refine gl tb ?_ | refine gg tb ?_ | refine ll tb ?_ | refine lg tb ?_))
  rw [hlen]
  try (first | refine gl tb ?_ | refine gg tb ?_ | refine ll tb ?_ | refine lg tb ?_); repeat ((first | refine G.condT rfl ?_ | refine G.condF rfl ?_ | refine sFa tb ?_ | refine sLd tb ?_ | refine sLa tb ?_ | refine sLen tb ?_ | refine sFd tb ?_ | refine sBd tb ?_ | refine sBa tb ?_); try (first | refine gl tb ?_ | refine gg tb ?_ | refine ll tb ?_ | refine lg tb ?_))
  first | refine G.condD rfl (fun hc => ?_) (fun hc => ?_) | refine G.condN rfl (fun hc => ?_) (fun hc => ?_) | refine G.cond rfl (fun hc => ?_) (fun hc => ?_)
  · have hc : (k : Int) < ns.length ∧ (k : Int) < 40 := by simpa using hc
    have hlt : k < ns.length := by omega
    have hget : (ns.map strC)[k]? = some [S ns[k]] := by simp [hlt, strC]
    have htk : ns.take (k + 1) = ns.take k ++ [ns[k]] := List.take_succ_eq_append_getElem hlt
    have hdl : docN.length = 45 := rfl
    generalize ns[k] = x at hget htk
    try (first | refine gl tb ?_ | refine gg tb ?_ | refine ll tb ?_ | refine lg tb ?_); repeat ((first | refine G.condT rfl ?_ | refine G.condF rfl ?_ | refine sFa tb ?_ | refine sLd tb ?_ | refine sLa tb ?_ | refine sLen tb ?_ | refine sFd tb ?_ | refine sBd tb ?_ | refine sIa tb k ?_); try (first | refine gl tb ?_ | refine gg tb ?_ | refine ll tb ?_ | refine lg tb ?_))
    refine sBs' tb [strC x] ?_ (hkl := strLen [x])
    intro v2 w2 ho2 hs2 hx2
    have hx02 := hx.trans hx2
    refine sApp tb (hu.to hx2) ho2.sli ?_ (h1 := str1 [x]) (hB := hx02.size) (hl := by simp only [List.length_map, List.length_append, List.length_cons, List.length_nil, List.length_take, hdl]; omega) (hb := by simp only [List.length_map, List.length_append, List.length_cons, List.length_nil, List.length_take, hdl]; omega)
    intro v3 w3 ho3 hg3
    try (first | refine gl tb ?_ | refine gg tb ?_ | refine ll tb ?_ | refine lg tb ?_); repeat ((first | refine G.condT rfl ?_ | refine G.condF rfl ?_ | refine sFa tb ?_ | refine sLd tb ?_ | refine sLa tb ?_ | refine sLen tb ?_ | refine sFd tb ?_ | refine sBd tb ?_ | refine sBa tb ?_); try (first | refine gl tb ?_ | refine gg tb ?_ | refine ll tb ?_ | refine lg tb ?_))
    refine sAd tb ?_
    try (first | refine gl tb ?_ | refine gg tb ?_ | refine ll tb ?_ | refine lg tb ?_); repeat ((first | refine G.condT rfl ?_ | refine G.condF rfl ?_ | refine sFa tb ?_ | refine sLd tb ?_ | refine sLa tb ?_ | refine sLen tb ?_ | refine sFd tb ?_ | refine sBd tb ?_ | refine sBa tb ?_); try (first | refine gl tb ?_ | refine gg tb ?_ | refine ll tb ?_ | refine lg tb ?_))
    exact G.lp (x := (k, u)) (k + 1, v3) (by repeat (first | exact Sub.nil _ | refine Sub.cons rfl ?_)) ⟨hg3.below _ hx02, by simp only; omega, by simp only; omega, by simp only; rw [htk, ← List.append_assoc]; unfold SO; rw [List.map_append]; exact ho3⟩ (by simp only; omega)
  clear hc hvW
  have hal : (docN ++ ns.take k).length ≤ 85 := by rw [List.length_append, List.length_take]; have : docN.length = 45 := rfl; omega
  generalize docN ++ ns.take k = all at hu hal
  have hlen : (all.map strC).length = all.length := List.length_map ..
  have hs := hu.sli
  have hx0 := hx
  try (first | refine gl tb ?_ | refine gg tb ?_ | refine ll tb ?_ | refine lg tb ?_); repeat ((first | refine G.condT rfl ?_ | refine G.condF rfl ?_ | refine sFa tb ?_ | refine sLd tb ?_ | refine sLa tb ?_ | refine sLen tb ?_ | refine sFd tb ?_ | refine sBd tb ?_ | refine sBa tb ?_); try (first | refine gl tb ?_ | refine gg tb ?_ | refine ll tb ?_ | refine lg tb ?_))
  refine (G.loop (fun j : Nat => [(3, none, u), (5, none, .int .i64 j)]) (fun j W2 => Ext W W2 ∧ j ≤ all.length) (fun j => all.length - j) 0 (by repeat (first | exact Sub.nil _ | refine Sub.cons rfl ?_)) ⟨Ext.refl _, by omega⟩ ?_)
  rintro j W1 ⟨hx1, hj⟩
  have hs1 := hs.to hx1
  try (first | refine gl tb ?_ | refine gg tb ?_ | refine ll tb ?_ | refine lg tb ?_); repeat ((first | refine G.condT rfl ?_ | refine G.condF rfl ?_ | refine sFa tb ?_ | refine sLd tb ?_ | refine sLa tb ?_ | refine sLen tb ?_ | refine sFd tb ?_ | refine sBd tb ?_ | refine sBa tb ?_); try (first | refine gl tb ?_ | refine gg tb ?_ | refine ll tb ?_ | refine lg tb ?_))
  rw [hlen]
  try (first | refine gl tb ?_ | refine gg tb ?_ | refine ll tb ?_ | refine lg tb ?_); repeat ((first | refine G.condT rfl ?_ | refine G.condF rfl ?_ | refine sFa tb ?_ | refine sLd tb ?_ | refine sLa tb ?_ | refine sLen tb ?_ | refine sFd tb ?_ | refine sBd tb ?_ | refine sBa tb ?_); try (first | refine gl tb ?_ | refine gg tb ?_ | refine ll tb ?_ | refine lg tb ?_))
  first | refine G.condD rfl (fun hc => ?_) (fun hc => ?_) | refine G.condN rfl (fun hc => ?_) (fun hc => ?_) | refine G.cond rfl (fun hc => ?_) (fun hc => ?_)
  · have hlt : j < all.length := by omega
    have hget : (all.map strC)[j]? = some [S all[j]] := by simp [hlt, strC]
    generalize all[j] = s at hget
    have hkl := knownP_len s
    try (first | refine gl tb ?_ | refine gg tb ?_ | refine ll tb ?_ | refine lg tb ?_); repeat ((first | refine G.condT rfl ?_ | refine G.condF rfl ?_ | refine sFa tb ?_ | refine sLd tb ?_ | refine sLa tb ?_ | refine sLen tb ?_ | refine sFd tb ?_ | refine sBd tb ?_ | refine sIa tb j ?_); try (first | refine gl tb ?_ | refine gg tb ?_ | refine ll tb ?_ | refine lg tb ?_))
    refine sCall c22 (known_ok s W1) ?_
    rintro _ w2 ⟨va, rfl, ha, hx2⟩
    have hs2 := hs1.to hx2
    try (first | refine gl tb ?_ | refine gg tb ?_ | refine ll tb ?_ | refine lg tb ?_); repeat ((first | refine G.condT rfl ?_ | refine G.condF rfl ?_ | refine sFa tb ?_ | refine sLd tb ?_ | refine sLa tb ?_ | refine sLen tb ?_ | refine sFd tb ?_ | refine sBd tb ?_ | refine sIa tb j ?_); try (first | refine gl tb ?_ | refine gg tb ?_ | refine ll tb ?_ | refine lg tb ?_))
    refine sCall c23 (refKnown_ok s w2) ?_
    rintro _ w3 ⟨vb, rfl, hb, hx3⟩
    have ha3 := ha.to hx3
    have hx13 := hx2.trans hx3
    try (first | refine gl tb ?_ | refine gg tb ?_ | refine ll tb ?_ | refine lg tb ?_); repeat ((first | refine G.condT rfl ?_ | refine G.condF rfl ?_ | refine sFa tb ?_ | refine sLd tb ?_ | refine sLa tb ?_ | refine sLen tb ?_ | refine sFd tb ?_ | refine sBd tb ?_ | refine sBa tb ?_); try (first | refine gl tb ?_ | refine gg tb ?_ | refine ll tb ?_ | refine lg tb ?_))
    refine sCall c24 (ints_ok va vb (knownP s).1 w3 ha3.sli hb.sli (by omega)) ?_
    rintro _ w4 ⟨rfl, hx4⟩
    have ha4 := ha3.to hx4
    have hb4 := hb.to hx4
    have hx14 := hx13.trans hx4
    try (first | refine gl tb ?_ | refine gg tb ?_ | refine ll tb ?_ | refine lg tb ?_); repeat ((first | refine G.condT rfl ?_ | refine G.condF rfl ?_ | refine sFa tb ?_ | refine sLd tb ?_ | refine sLa tb ?_ | refine sLen tb ?_ | refine sFd tb ?_ | refine sBd tb ?_ | refine sBa tb ?_); try (first | refine gl tb ?_ | refine gg tb ?_ | refine ll tb ?_ | refine lg tb ?_))
    first | refine G.condD rfl (fun hc => ?_) (fun hc => ?_) | refine G.condN rfl (fun hc => ?_) (fun hc => ?_) | refine G.cond rfl (fun hc => ?_) (fun hc => ?_)
    · exfalso; simp at hc
    clear hc
    try (first | refine gl tb ?_ | refine gg tb ?_ | refine ll tb ?_ | refine lg tb ?_); repeat ((first | refine G.condT rfl ?_ | refine G.condF rfl ?_ | refine sFa tb ?_ | refine sLd tb ?_ | refine sLa tb ?_ | refine sLen tb ?_ | refine sFd tb ?_ | refine sBd tb ?_ | refine sBa tb ?_); try (first | refine gl tb ?_ | refine gg tb ?_ | refine ll tb ?_ | refine lg tb ?_))
    refine sCall c25 (spoilI_ok va (knownP s).1 W1.heap.size w4 ha4 (by omega) hx14.size) ?_
    intro _ w5 hg5
    have hx15 : Ext W1 w5 := hg5.below _ hx14
    have hb5 := hb4.grew hg5 (fun bl h1 h2 => by
      have q1 := hb.1.lt bl h1.symm
      have q2 := ha.1.lt bl h2.symm
      omega)
    have hs5 := hs1.to hx15
    try (first | refine gl tb ?_ | refine gg tb ?_ | refine ll tb ?_ | refine lg tb ?_); repeat ((first | refine G.condT rfl ?_ | refine G.condF rfl ?_ | refine sFa tb ?_ | refine sLd tb ?_ | refine sLa tb ?_ | refine sLen tb ?_ | refine sFd tb ?_ | refine sBd tb ?_ | refine sIa tb j ?_); try (first | refine gl tb ?_ | refine gg tb ?_ | refine ll tb ?_ | refine lg tb ?_))
    refine sCall c22 (known_ok s w5) ?_
    rintro _ w6 ⟨vc, rfl, hc6, hx6⟩
    try (first | refine gl tb ?_ | refine gg tb ?_ | refine ll tb ?_ | refine lg tb ?_); repeat ((first | refine G.condT rfl ?_ | refine G.condF rfl ?_ | refine sFa tb ?_ | refine sLd tb ?_ | refine sLa tb ?_ | refine sLen tb ?_ | refine sFd tb ?_ | refine sBd tb ?_ | refine sBa tb ?_); try (first | refine gl tb ?_ | refine gg tb ?_ | refine ll tb ?_ | refine lg tb ?_))
    refine sCall c24 (ints_ok vc vb (knownP s).1 w6 hc6.sli (hb5.to hx6).sli (by omega)) ?_
    rintro _ w7 ⟨rfl, hx7⟩
    try (first | refine gl tb ?_ | refine gg tb ?_ | refine ll tb ?_ | refine lg tb ?_); repeat ((first | refine G.condT rfl ?_ | refine G.condF rfl ?_ | refine sFa tb ?_ | refine sLd tb ?_ | refine sLa tb ?_ | refine sLen tb ?_ | refine sFd tb ?_ | refine sBd tb ?_ | refine sBa tb ?_); try (first | refine gl tb ?_ | refine gg tb ?_ | refine ll tb ?_ | refine lg tb ?_))
    refine sAd tb ?_
    try (first | refine gl tb ?_ | refine gg tb ?_ | refine ll tb ?_ | refine lg tb ?_); repeat ((first | refine G.condT rfl ?_ | refine G.condF rfl ?_ | refine sFa tb ?_ | refine sLd tb ?_ | refine sLa tb ?_ | refine sLen tb ?_ | refine sFd tb ?_ | refine sBd tb ?_ | refine sBa tb ?_); try (first | refine gl tb ?_ | refine gg tb ?_ | refine ll tb ?_ | refine lg tb ?_))
    exact G.lp (x := j) (j + 1) (by repeat (first | exact Sub.nil _ | refine Sub.cons rfl ?_)) ⟨((hx1.trans hx15).trans hx6).trans hx7, by omega⟩ (by omega)
  · try (first | refine gl tb ?_ | refine gg tb ?_ | refine ll tb ?_ | refine lg tb ?_); repeat ((first | refine G.condT rfl ?_ | refine G.condF rfl ?_ | refine sFa tb ?_ | refine sLd tb ?_ | refine sLa tb ?_ | refine sLen tb ?_ | refine sFd tb ?_ | refine sBd tb ?_ | refine sBa tb ?_); try (first | refine gl tb ?_ | refine gg tb ?_ | refine ll tb ?_ | refine lg tb ?_))
    refine sCall c12 (wakes_ok W1) ?_
    rintro _ w2 ⟨rfl, hx2⟩
    try (first | refine gl tb ?_ | refine gg tb ?_ | refine ll tb ?_ | refine lg tb ?_); repeat ((first | refine G.condT rfl ?_ | refine G.condF rfl ?_ | refine sFa tb ?_ | refine sLd tb ?_ | refine sLa tb ?_ | refine sLen tb ?_ | refine sFd tb ?_ | refine sBd tb ?_ | refine sBa tb ?_); try (first | refine gl tb ?_ | refine gg tb ?_ | refine ll tb ?_ | refine lg tb ?_))
    refine G.ret1 rfl rfl rfl rfl ?_
    exact ⟨rfl, hx0.trans (hx1.trans hx2)⟩
end Go.Proofs.Ytbnckhfkkoncbaa
