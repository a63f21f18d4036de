/- labels: a set in words, walked. -/
import Derived.Test.YtfffblopkaandaaDoorLX
open Go Go.Vg Go.RowKit Go.Proofs Go.Proofs.YtfffblopkaandaaDoor
namespace Go.Proofs.YtfffblopkaandaaDoor
set_option linter.unusedSimpArgs false

def partL (x : Lab) : List UInt8 := x.1 ++ [61] ++ quoteL x.2
def restL (ls : List Lab) : List (List UInt8) := (ls.filter fun x => !decide (x.1 = nameS)).map partL
def joinL (ss : List (List UInt8)) : List UInt8 := Lib.join ss [44]
def textL (ls : List Lab) : List UInt8 := if (!decide (getL ls nameS = []) && decide (((restL ls).length : Int) = 0)) = true then getL ls nameS else getL ls nameS ++ [123] ++ joinL (restL ls) ++ [125]
abbrev SO (w : World) (B : Nat) (v : Value) (ss : List (List UInt8)) : Prop := Owns w B v 9 1 (ss.map fun s => [S s])
theorem Owns1.one {w : World} {B : Nat} {v : Value} {et k : Nat} {xs : List (List Value)} (h : Owns w B v et k xs) : ∀ c ∈ [v], c.oneCell' = true := by
  intro c hc
  simp only [List.mem_cons, List.not_mem_nil, or_false] at hc
  subst hc
  rcases h.1.2 with ⟨rfl, _⟩ | ⟨g, cap, cur, rfl, _⟩ <;> rfl
theorem lens_le {m : Nat} : ∀ {ss : List (List UInt8)}, (∀ s ∈ ss, s.length ≤ m) → Lib.lens ss ≤ m * ss.length
  | [], _ => by simp [Lib.lens]
  | a :: r, h => by
    have h1 := h a (by simp)
    have h2 := lens_le (m := m) (ss := r) (fun s hs => h s (by simp [hs]))
    have : Lib.lens (a :: r) = a.length + Lib.lens r := by simp [Lib.lens]
    rw [this, List.length_cons, Nat.mul_succ]; omega
theorem joinL_len {m : Nat} {ss : List (List UInt8)} (h : ∀ s ∈ ss, s.length ≤ m) : (joinL ss).length ≤ (m + 1) * ss.length := by
  cases ss with
  | nil => simp [joinL, Lib.join_nil]
  | cons a r =>
    have h1 := Lib.join_length a r [44]
    have h2 := lens_le h
    unfold joinL
    rw [h1, Nat.succ_mul]
    simp only [List.length_cons, List.length_nil] at h2 ⊢; omega
theorem join_ok (s : Value) (ss : List (List UInt8)) (B : Nat) (w : World) (h : SO w B s ss) (hl : (joinL ss).length ≤ 140737488355328) :
    Ret Tryd.prog 71 ⟨[s, S [44]]⟩ w fun r w' => r = S (joinL ss) ∧ Ext w w' := by
  have hlen := h.2.2
  rw [List.length_map] at hlen
  have hfl : ∀ (j : Nat) (x : List UInt8), ss[j]? = some x → (ss.map fun s => [S s]).flatten[j]? = some (S x) := by
    intro j x hj
    have := flatten_get (k := 1) (ss.map fun s => [S s]) h.2.1 j [S x] (by simp [hj]) 0 (S x) rfl
    simpa using this
  rcases h.1.2 with ⟨rfl, hn⟩ | ⟨g, cap, cur, rfl, hB, hg, hc, hm, hs, ht⟩
  · have : ss = [] := by simpa using hn
    subst this
    refine Calls.mono (Any.strings_Join_none Tryd.lays156 Tryd.Builder_Extra_156 none 0 ⟨⟨[44]⟩⟩ w) ?_
    rintro e w' ⟨he, rfl⟩
    exact ⟨_, he, rfl, Ext.refl _⟩
  · rw [List.length_map] at hc ht ⊢
    have hmap : ((ss.map fun s => (⟨⟨s⟩⟩ : ByteArray)).map (·.data.toList)) = ss := by simp [Function.comp_def]
    have key := Any.strings_Join Tryd.lays156 Tryd.Builder_Extra_156 g 0 cap (ss.map fun s => (⟨⟨s⟩⟩ : ByteArray)) ⟨⟨[44]⟩⟩ w ?_ (Array.getElem?_eq_some_iff.1 hg).1 (by simpa using hlen) (by simpa using hc) (by rw [hmap]; exact hl)
    · rw [hmap, List.length_map] at key
      exact Calls.mono key fun e w' ⟨he, hb⟩ => ⟨_, he, rfl, hb⟩
    · intro j x hx
      simp only [List.getElem?_map, Option.map_eq_some_iff] at hx
      obtain ⟨y, hy, rfl⟩ := hx
      have h1 := hfl j y hy
      rw [← ht] at h1
      have h2 : j < ss.length * 1 := by have := (List.getElem?_eq_some_iff.1 hy).1; omega
      rw [List.getElem?_take_of_lt h2] at h1
      rw [Nat.zero_add, cell_of_row w g j cur _ (0, 0) hg]
      have h3 : cur[j]? = some (S y) := by simpa using h1
      exact h3
theorem restL_snoc (ls : List Lab) (x : Lab) : restL (ls ++ [x]) = if x.1 = nameS then restL ls else restL ls ++ [partL x] := by
  by_cases h : x.1 = nameS <;> simp [restL, h]

theorem text_ok (v : Value) (ls : List Lab) (w : World) (hv : Labs w v ls) (hn : ls.length ≤ 1000) (hz : ∀ x ∈ ls, x.1.length ≤ 1000000 ∧ x.2.length ≤ 1000000) :
    Ret Tryd.prog 41 ⟨[v]⟩ w fun r w' => r = S (textL ls) ∧ Ext w w' := by
  refine ret_of_GM Tryd.func41 rfl Tryd.ntmps41 rfl ?_
  simp only [argEnv]
  try (first | refine gl tb ?_ | refine gg tb ?_ | refine ll tb ?_ | refine lg tb ?_); repeat ((first | refine G.condT rfl ?_ | refine G.condF rfl ?_); try (first | refine gl tb ?_ | refine gg tb ?_ | refine ll tb ?_ | refine lg tb ?_))
  refine GL.cons (Step.callX rfl rfl (by repeat (first | exact OpL.nil | refine OpL.cons (Op1.of rfl (by first | exact fun _ => rfl | exact fun h => h | exact fun h => bL h | exact fun h => bL (bL h) | exact fun h => bL (bL (bL h)))) ?_)) c50 rfl (fun hc => get_ok v ls nameS w hv) ?_)
  intro w1 hx1
  try (first | refine gl tb ?_ | refine gg tb ?_ | refine ll tb ?_ | refine lg tb ?_); repeat ((first | refine G.condT rfl ?_ | refine G.condF rfl ?_); try (first | refine gl tb ?_ | refine gg tb ?_ | refine ll tb ?_ | refine lg tb ?_))
  refine GL.cons (Step.alloc tb rfl rfl rfl rfl ?_)
  intro w2 hb2 hs2 hx2
  have hx02 := hx1.trans hx2
  try (first | refine gl tb ?_ | refine gg tb ?_ | refine ll tb ?_ | refine lg tb ?_); repeat ((first | refine G.condT rfl ?_ | refine G.condF rfl ?_); try (first | refine gl tb ?_ | refine gg tb ?_ | refine ll tb ?_ | refine lg tb ?_))
  refine GL.cons (Step.callF rfl rfl rfl c13 rfl (all_ok v ls w2 (hv.to hx02)) ?_)
  rintro r w3 ⟨b, rfl, hb, hbx, hx3⟩
  have hb3 := hb2.to hx3
  have hx03 : Ext w w3 := hx02.trans hx3
  have hbne : w1.heap.size < b := by omega
  obtain ⟨B, hB⟩ : ∃ B, B = w3.heap.size := ⟨_, rfl⟩
  have hB1 : w1.heap.size < B := by have := hx3.size; omega
  have hB2 : b < B := by rw [hB]; exact hbx.lt
  have hB3 : w.heap.size ≤ B := by rw [hB]; exact hx03.size
  try (first | refine gl tb ?_ | refine gg tb ?_ | refine ll tb ?_ | refine lg tb ?_); repeat ((first | refine G.condT rfl ?_ | refine G.condF rfl ?_); try (first | refine gl tb ?_ | refine gg tb ?_ | refine ll tb ?_ | refine lg tb ?_))
  refine G.rangeFunc rfl rfl c53 (all1_ok v ls b) rfl rfl (by intro x hx; obtain ⟨y, _, rfl⟩ := List.mem_map.1 hx; rfl)
    (fun i W => Ext w W ∧ Bx W b [v] ∧ B ≤ W.heap.size ∧ ∃ s, Bx W w1.heap.size [s] ∧ SO W B s (restL (ls.take i))) (fun _ _ => False) ?_ ?_ ?_ ?_ ?_ ?_ ?_
  · rintro l hl i W W' ⟨h1, h2, h3, s, h4, h5⟩ hk
    exact ⟨Below.kept h1 hk (by have := hx03.size; omega) h1.size, h2.kept hk, by have := hk.2.size; omega, s, h4.kept hk, h5.kept hk⟩
  · exact fun _ _ _ _ _ h _ => h
  · rintro i W ⟨h1, h2, _⟩
    exact ⟨h2.cells.one, hv.to h1⟩
  · exact fun w' h => ⟨hx03.trans h, hbx.to h, by rw [hB]; exact h.size, _, hb3.to h, Owns.nil _ _ _ _⟩
  · rintro l r rc i x W hl hlr hxi ⟨h1, h2, h3, s, h4, h5⟩ hLp
    simp only [List.getElem?_map, Option.map_eq_some_iff] at hxi
    obtain ⟨y, hy, rfl⟩ := hxi
    try (first | refine gl tb ?_ | refine gg tb ?_ | refine ll tb ?_ | refine lg tb ?_); repeat ((first | refine G.condT rfl ?_ | refine G.condF rfl ?_); try (first | refine gl tb ?_ | refine gg tb ?_ | refine ll tb ?_ | refine lg tb ?_))
    refine G.beg rfl rfl rfl hLp hlr ?_
    intro W2 hk hLp2 hsz
    have h1' : Ext w W2 := Below.kept h1 hk (by omega) h1.size
    have h2' := h2.kept hk
    have h4' := h4.kept hk
    have h5' := h5.kept hk
    have hBW : B ≤ W2.heap.size := by omega
    clear h1 h2 h4 h5 hk hLp
    have hmem : y ∈ ls := List.mem_of_getElem? hy
    have hlt : i < ls.length := (List.getElem?_eq_some_iff.1 hy).1
    have htk : ls.take (i + 1) = ls.take i ++ [y] := by
      rw [List.take_succ_eq_append_getElem hlt, (List.getElem?_eq_some_iff.1 hy).2]
    have hrs : restL (ls.take (i + 1)) = if y.1 = nameS then restL (ls.take i) else restL (ls.take i) ++ [partL y] := by rw [htk, restL_snoc]
    have hrl : (restL (ls.take i)).length ≤ 1000 := by
      have h1 := List.length_filter_le (fun x : Lab => !decide (x.1 = nameS)) (ls.take i)
      rw [List.length_take] at h1
      simp only [restL, List.length_map]; omega
    try (first | refine gl tb ?_ | refine gg tb ?_ | refine ll tb ?_ | refine lg tb ?_); repeat ((first | refine G.condT rfl ?_ | refine G.condF rfl ?_); try (first | refine gl tb ?_ | refine gg tb ?_ | refine ll tb ?_ | refine lg tb ?_))
    first | refine G.condD rfl (fun hc => ?_) (fun hc => ?_) | refine G.condN rfl (fun hc => ?_) (fun hc => ?_) | refine G.cond rfl (fun hc => ?_) (fun hc => ?_)
    · have hne : ¬ y.1 = nameS := by simpa [nameS] using hc
      rw [if_neg hne] at hrs
      try (first | refine gl tb ?_ | refine gg tb ?_ | refine ll tb ?_ | refine lg tb ?_); repeat ((first | refine G.condT rfl ?_ | refine G.condF rfl ?_); try (first | refine gl tb ?_ | refine gg tb ?_ | refine ll tb ?_ | refine lg tb ?_))
      refine G.regionG (fun _ => True) mixed trivial ?_
      have h1 : Ext w W2.drew := h1'.drew'
      have h2 : Bx W2.drew b [v] := h2'
      have h4 : Bx W2.drew w1.heap.size [s] := h4'
      have h5 := h5'.to (Ext.drew W2)
      have hBW : B ≤ W2.drew.heap.size := by simpa using hBW
      have hLp := hLp2.to (Ext.drew W2)
      generalize W2.drew = W3 at h1 h2 h4 h5 hBW hLp ⊢
      clear h1' h2' h4' h5' hLp2 hsz
      have hq := quoted_ok y.2
      have hyz := hz y hmem
      have hel := escL_len y.2
      refine GD.join [0, 1, 2, 3, 4, 5, 6] (fun x : Value => [(4, none, ptr w1.heap.size), (15, none, s), (21, none, x)]) (fun x w' => Ext W3 w' ∧ SO w' W3.heap.size x [partL y]) ?_ fun meet => ?_
      · rintro s21 W4 ⟨hx4, ho21⟩
        simp only at ho21 ⊢
        refine GD.steps ([(7, false), (8, false)]) (by kernel_rfl) (by kernel_rfl) rfl ?_
        refine GM.eff (Step.append tb rfl (Op1.of rfl (by first | exact fun _ => rfl | exact fun h => h | exact fun h => bL h | exact fun h => bL (bL h) | exact fun h => bL (bL (bL h)))) (Op1.of rfl (by first | exact fun _ => rfl | exact fun h => h | exact fun h => bL h | exact fun h => bL (bL h) | exact fun h => bL (bL (bL h)))) rfl rfl rfl (by rfl) (h5.to hx4) (ho21.sli) (by simp [S, Value.oneCell']) (by simp only [List.length_map, List.length_append, List.length_cons, List.length_nil, List.length_take, List.length_drop]; omega) (by simp only [List.length_map, List.length_append, List.length_cons, List.length_nil, List.length_take, List.length_drop]; omega) (by have := hx4.size; omega) rfl ?_)
        intro s22 W5 ho22 hg5
        refine ⟨trivial, ?_⟩
        have h45 := (h4.to hx4).grew hg5 ((h5.to hx4).ne hB1)
        refine GM.eff (Step.store0 tb rfl (Op1.of rfl (by first | exact fun _ => rfl | exact fun h => h | exact fun h => bL h | exact fun h => bL (bL h) | exact fun h => bL (bL (bL h)))) (Op1.of rfl (by first | exact fun _ => rfl | exact fun h => h | exact fun h => bL h | exact fun h => bL (bL h) | exact fun h => bL (bL (bL h)))) rfl (ho22.cells) rfl (Owns1.one ho22) h45 rfl ?_)
        intro W6 hb6 hw6
        refine ⟨trivial, ?_⟩
        refine GM.nil ?_
        refine GD.done (by kernel_rfl) ?_
        have hb45 : Below w.heap.size W4 W5 := (hg5.below _ (Below.refl _ _)).mono hB3
        have hx5 : Ext w W5 := Below.trans (B := w.heap.size) (h1.trans hx4) hb45
        have hx6 : Ext w W6 := Below.wr hx5 hw6 hx1.size
        have hL6 := ((h5.to hx4).lp (hLp.to hx4) hg5).wr h45 hw6
        have h26 := ((h2.to hx4).grew hg5 ((h5.to hx4).ne hB2)).wr hw6 (by omega)
        have hs6 : B ≤ W6.heap.size := by have := hx4.size; have := hg5.size; have := hw6.size; omega
        exact G.nil fun t _ => ⟨hL6, hx6, h26, hs6, s22, hb6, by rw [hrs]; unfold SO; rw [List.map_append]; exact ho22.wr hw6 hB1⟩
      · refine GD.steps ([(1, true), (2, true), (3, true)]) (by kernel_rfl) (by kernel_rfl) rfl ?_
        repeat (first
    | refine GM.nil ?_
    | refine GM.read (fun w' hS => Step.move rfl (Op1.of rfl (by first | exact fun _ => rfl | exact fun h => h | exact fun h => bL h | exact fun h => bL (bL h) | exact fun h => bL (bL (bL h)))) rfl ⟨rfl, rfl⟩) rfl rfl ?_
    | refine GM.read (fun w' hS => Step.assign rfl (Op1.of rfl (by first | exact fun _ => rfl | exact fun h => h | exact fun h => bL h | exact fun h => bL (bL h) | exact fun h => bL (bL (bL h)))) rfl ⟨rfl, rfl⟩) rfl rfl ?_
    | refine GM.read (fun w' hS => Step.bin rfl (Op1.of rfl (by first | exact fun _ => rfl | exact fun h => h | exact fun h => bL h | exact fun h => bL (bL h) | exact fun h => bL (bL (bL h)))) (Op1.of rfl (by first | exact fun _ => rfl | exact fun h => h | exact fun h => bL h | exact fun h => bL (bL h) | exact fun h => bL (bL (bL h)))) rfl rfl ⟨rfl, rfl⟩) rfl rfl ?_
    | refine GM.read (fun w' hS => Step.and rfl (Op1.of rfl (by first | exact fun _ => rfl | exact fun h => h | exact fun h => bL h | exact fun h => bL (bL h) | exact fun h => bL (bL (bL h)))) rfl (by first | exact fun _ _ => rfl | exact fun _ h => h | exact fun _ h => bNot h | exact fun h k => bAnd h k | exact fun h k => bAnd h (bNot k)) rfl ⟨rfl, rfl⟩) rfl rfl ?_
    | refine GM.read (fun w' hS => Step.or rfl (Op1.of rfl (by first | exact fun _ => rfl | exact fun h => h | exact fun h => bL h | exact fun h => bL (bL h) | exact fun h => bL (bL (bL h)))) rfl (by first | exact fun _ _ => rfl | exact fun _ h => h | exact fun _ h => bNot h | exact fun h k => bAnd h k | exact fun h k => bAnd h (bNot k)) rfl ⟨rfl, rfl⟩) rfl rfl ?_
    | refine GM.read (fun w' hS => Step.lenS tb rfl (Op1.of rfl (by first | exact fun _ => rfl | exact fun h => h | exact fun h => bL h | exact fun h => bL (bL h) | exact fun h => bL (bL (bL h)))) rfl rfl ⟨rfl, rfl⟩) rfl rfl ?_
    | refine GM.read (fun w' hS => Step.un rfl (Op1.of rfl (by first | exact fun _ => rfl | exact fun h => h | exact fun h => bL h | exact fun h => bL (bL h) | exact fun h => bL (bL (bL h)))) rfl rfl ⟨rfl, rfl⟩) rfl rfl ?_
    | refine GM.read (fun w' hS => Step.extract rfl (Op1.of rfl (by first | exact fun _ => rfl | exact fun h => h | exact fun h => bL h | exact fun h => bL (bL h) | exact fun h => bL (bL (bL h)))) rfl rfl ⟨rfl, rfl⟩) rfl rfl ?_)
        refine GM.read (fun w' hS => Step.cat rfl (Op1.of rfl (by first | exact fun _ => rfl | exact fun h => h | exact fun h => bL h | exact fun h => bL (bL h) | exact fun h => bL (bL (bL h)))) (Op1.of rfl (by first | exact fun _ => rfl | exact fun h => h | exact fun h => bL h | exact fun h => bL (bL h) | exact fun h => bL (bL (bL h)))) (fun _ => by simp only [List.length_cons, List.length_nil]; omega) rfl ⟨rfl, rfl⟩) rfl rfl ?_
        repeat (first
    | refine GM.nil ?_
    | refine GM.read (fun w' hS => Step.move rfl (Op1.of rfl (by first | exact fun _ => rfl | exact fun h => h | exact fun h => bL h | exact fun h => bL (bL h) | exact fun h => bL (bL (bL h)))) rfl ⟨rfl, rfl⟩) rfl rfl ?_
    | refine GM.read (fun w' hS => Step.assign rfl (Op1.of rfl (by first | exact fun _ => rfl | exact fun h => h | exact fun h => bL h | exact fun h => bL (bL h) | exact fun h => bL (bL (bL h)))) rfl ⟨rfl, rfl⟩) rfl rfl ?_
    | refine GM.read (fun w' hS => Step.bin rfl (Op1.of rfl (by first | exact fun _ => rfl | exact fun h => h | exact fun h => bL h | exact fun h => bL (bL h) | exact fun h => bL (bL (bL h)))) (Op1.of rfl (by first | exact fun _ => rfl | exact fun h => h | exact fun h => bL h | exact fun h => bL (bL h) | exact fun h => bL (bL (bL h)))) rfl rfl ⟨rfl, rfl⟩) rfl rfl ?_
    | refine GM.read (fun w' hS => Step.and rfl (Op1.of rfl (by first | exact fun _ => rfl | exact fun h => h | exact fun h => bL h | exact fun h => bL (bL h) | exact fun h => bL (bL (bL h)))) rfl (by first | exact fun _ _ => rfl | exact fun _ h => h | exact fun _ h => bNot h | exact fun h k => bAnd h k | exact fun h k => bAnd h (bNot k)) rfl ⟨rfl, rfl⟩) rfl rfl ?_
    | refine GM.read (fun w' hS => Step.or rfl (Op1.of rfl (by first | exact fun _ => rfl | exact fun h => h | exact fun h => bL h | exact fun h => bL (bL h) | exact fun h => bL (bL (bL h)))) rfl (by first | exact fun _ _ => rfl | exact fun _ h => h | exact fun _ h => bNot h | exact fun h k => bAnd h k | exact fun h k => bAnd h (bNot k)) rfl ⟨rfl, rfl⟩) rfl rfl ?_
    | refine GM.read (fun w' hS => Step.lenS tb rfl (Op1.of rfl (by first | exact fun _ => rfl | exact fun h => h | exact fun h => bL h | exact fun h => bL (bL h) | exact fun h => bL (bL (bL h)))) rfl rfl ⟨rfl, rfl⟩) rfl rfl ?_
    | refine GM.read (fun w' hS => Step.un rfl (Op1.of rfl (by first | exact fun _ => rfl | exact fun h => h | exact fun h => bL h | exact fun h => bL (bL h) | exact fun h => bL (bL (bL h)))) rfl rfl ⟨rfl, rfl⟩) rfl rfl ?_
    | refine GM.read (fun w' hS => Step.extract rfl (Op1.of rfl (by first | exact fun _ => rfl | exact fun h => h | exact fun h => bL h | exact fun h => bL (bL h) | exact fun h => bL (bL (bL h)))) rfl rfl ⟨rfl, rfl⟩) rfl rfl ?_)
        refine GD.two (0) (4) (by kernel_rfl) (by kernel_rfl) rfl rfl ?_ ?_
        · refine (Step.load1 tb rfl (Op1.of rfl (by first | exact fun _ => rfl | exact fun h => h | exact fun h => bL h | exact fun h => bL (bL h) | exact fun h => bL (bL (bL h)))) rfl rfl (fun _ => h4.cells.one) rfl ?_)
          refine ⟨trivial, ?_⟩
          refine GD.steps ([(4, false), (5, true), (6, false)]) (by kernel_rfl) (by kernel_rfl) rfl ?_
          refine GM.eff (Step.callF rfl rfl rfl c70 rfl (hq W3 (by omega)) ?_)
          rintro _ W4 ⟨rfl, hx4⟩
          refine ⟨trivial, ?_⟩
          refine GM.read (fun w' hS => Step.cat rfl (Op1.of rfl (by first | exact fun _ => rfl | exact fun h => h | exact fun h => bL h | exact fun h => bL (bL h) | exact fun h => bL (bL (bL h)))) (Op1.of rfl (by first | exact fun _ => rfl | exact fun h => h | exact fun h => bL h | exact fun h => bL (bL h) | exact fun h => bL (bL (bL h)))) (fun _ => by simp only [quoteL, List.length_append, List.length_cons, List.length_nil]; omega) rfl ⟨rfl, rfl⟩) rfl rfl ?_
          refine GM.eff (Step.buildSlice tb ([[S (partL y)]]) rfl rfl rfl rfl rfl rfl (by rfl) rfl (by rfl) (by rfl) (by rfl) (by simp) rfl ?_)
          intro s21 W5 ho5 hs5 hx5
          refine ⟨trivial, ?_⟩
          refine GM.nil ?_
          exact meet s21 _ _ _ rfl rfl (by repeat (first | exact Sub.nil _ | refine Sub.cons rfl ?_)) ⟨hx4.trans hx5, ho5.mono hx4.size⟩
        · refine (Step.callF rfl rfl rfl c70 rfl (hq W3 (by omega)) ?_)
          rintro _ W4 ⟨rfl, hx4⟩
          refine ⟨trivial, ?_⟩
          have h44 := h4.to hx4
          refine GD.steps ([(5, true)]) (by kernel_rfl) (by kernel_rfl) rfl ?_
          refine GM.read (fun w' hS => Step.cat rfl (Op1.of rfl (by first | exact fun _ => rfl | exact fun h => h | exact fun h => bL h | exact fun h => bL (bL h) | exact fun h => bL (bL (bL h)))) (Op1.of rfl (by first | exact fun _ => rfl | exact fun h => h | exact fun h => bL h | exact fun h => bL (bL h) | exact fun h => bL (bL (bL h)))) (fun _ => by simp only [quoteL, List.length_append, List.length_cons, List.length_nil]; omega) rfl ⟨rfl, rfl⟩) rfl rfl ?_
          refine GM.nil ?_
          refine GD.two (0) (6) (by kernel_rfl) (by kernel_rfl) rfl rfl ?_ ?_
          · refine (Step.load1 tb rfl (Op1.of rfl (by first | exact fun _ => rfl | exact fun h => h | exact fun h => bL h | exact fun h => bL (bL h) | exact fun h => bL (bL (bL h)))) rfl rfl (fun _ => h44.cells.one) rfl ?_)
            refine ⟨trivial, ?_⟩
            refine GD.steps ([(6, false)]) (by kernel_rfl) (by kernel_rfl) rfl ?_
            refine GM.eff (Step.buildSlice tb ([[S (partL y)]]) rfl rfl rfl rfl rfl rfl (by rfl) rfl (by rfl) (by rfl) (by rfl) (by simp) rfl ?_)
            intro s21 W5 ho5 hs5 hx5
            refine ⟨trivial, ?_⟩
            refine GM.nil ?_
            exact meet s21 _ _ _ rfl rfl (by repeat (first | exact Sub.nil _ | refine Sub.cons rfl ?_)) ⟨hx4.trans hx5, ho5.mono hx4.size⟩
          · refine (Step.buildSlice tb ([[S (partL y)]]) rfl rfl rfl rfl rfl rfl (by rfl) rfl (by rfl) (by rfl) (by rfl) (by simp) rfl ?_)
            intro s21 W5 ho5 hs5 hx5
            refine ⟨trivial, ?_⟩
            refine GD.steps ([(0, false)]) (by kernel_rfl) (by kernel_rfl) rfl ?_
            refine GM.eff (Step.load1 tb rfl (Op1.of rfl (by first | exact fun _ => rfl | exact fun h => h | exact fun h => bL h | exact fun h => bL (bL h) | exact fun h => bL (bL (bL h)))) rfl rfl (fun _ => (h44.to hx5).cells.one) rfl ?_)
            refine ⟨trivial, ?_⟩
            refine GM.nil ?_
            exact meet s21 _ _ _ rfl rfl (by repeat (first | exact Sub.nil _ | refine Sub.cons rfl ?_)) ⟨hx4.trans hx5, ho5.mono hx4.size⟩
    · have hne : y.1 = nameS := by simpa [nameS] using hc
      rw [if_pos hne] at hrs
      try (first | refine gl tb ?_ | refine gg tb ?_ | refine ll tb ?_ | refine lg tb ?_); repeat ((first | refine G.condT rfl ?_ | refine G.condF rfl ?_); try (first | refine gl tb ?_ | refine gg tb ?_ | refine ll tb ?_ | refine lg tb ?_))
      exact G.nil fun t _ => ⟨hLp2, h1', h2', hBW, s, h4', by rw [hrs]; exact h5'⟩
  · rintro r W hr ⟨h1, h2, h3, s, h4, h5⟩ hD
    rw [List.length_map, List.take_length] at h5
    have hrl : (restL ls).length ≤ 1000 := by
      have h1 := List.length_filter_le (fun x : Lab => !decide (x.1 = nameS)) ls
      simp only [restL, List.length_map]; omega
    have hpl : ∀ p ∈ restL ls, p.length ≤ 3000003 := by
      intro p hp
      obtain ⟨x, hx, rfl⟩ := List.mem_map.1 hp
      have h1 := hz x (List.mem_filter.1 hx).1
      have h2 := escL_len x.2
      simp only [partL, quoteL, List.length_append, List.length_cons, List.length_nil]; omega
    have hjl := joinL_len hpl
    have hjb : (joinL (restL ls)).length ≤ 3000004000 := Nat.le_trans hjl (Nat.mul_le_mul_left _ hrl)
    have hgl : ∀ l : List Lab, (∀ x ∈ l, x.1.length ≤ 1000000 ∧ x.2.length ≤ 1000000) → (getL l nameS).length ≤ 1000000 := by
      intro l
      induction l with
      | nil => intro _; simp [getL]
      | cons a r ih =>
        intro h
        simp only [getL]
        split
        · exact (h a (by simp)).2
        · exact ih fun x hx => h x (by simp [hx])
    have hgn := hgl ls hz
    have hrw : w.heap.size ≤ r := by omega
    try (first | refine gl tb ?_ | refine gg tb ?_ | refine ll tb ?_ | refine lg tb ?_); repeat ((first | refine G.condT rfl ?_ | refine G.condF rfl ?_); try (first | refine gl tb ?_ | refine gg tb ?_ | refine ll tb ?_ | refine lg tb ?_))
    refine GL.cons (Step.load1 tb rfl (Op1.of rfl (by first | exact fun _ => rfl | exact fun h => h | exact fun h => bL h | exact fun h => bL (bL h) | exact fun h => bL (bL (bL h)))) rfl rfl (fun _ => h4.cells.one) rfl ?_)
    refine GL.cons (Step.lenV tb rfl (Op1.of rfl (by first | exact fun _ => rfl | exact fun h => h | exact fun h => bL h | exact fun h => bL (bL h) | exact fun h => bL (bL (bL h)))) rfl (fun _ => ⟨_, h5.sli⟩) rfl ?_)
    simp only [List.length_map]
    try (first | refine gl tb ?_ | refine gg tb ?_ | refine ll tb ?_ | refine lg tb ?_); repeat ((first | refine G.condT rfl ?_ | refine G.condF rfl ?_); try (first | refine gl tb ?_ | refine gg tb ?_ | refine ll tb ?_ | refine lg tb ?_))
    first | refine G.condD rfl (fun hc => ?_) (fun hc => ?_) | refine G.condN rfl (fun hc => ?_) (fun hc => ?_) | refine G.cond rfl (fun hc => ?_) (fun hc => ?_)
    · try (first | refine gl tb ?_ | refine gg tb ?_ | refine ll tb ?_ | refine lg tb ?_); repeat ((first | refine G.condT rfl ?_ | refine G.condF rfl ?_); try (first | refine gl tb ?_ | refine gg tb ?_ | refine ll tb ?_ | refine lg tb ?_))
      refine G.retM rfl rfl hD fun t ht => ⟨_, res1 ht rfl rfl _, ?_, h1.wr (outW_wr r _) hrw⟩
      rw [textL, if_pos (by simpa [nameS] using hc)]
    · have htx : textL ls = getL ls nameS ++ [123] ++ joinL (restL ls) ++ [125] := by
        unfold textL; rw [if_neg (by rw [Bool.not_eq_true]; exact hc)]
      rw [htx]
      try (first | refine gl tb ?_ | refine gg tb ?_ | refine ll tb ?_ | refine lg tb ?_); repeat ((first | refine G.condT rfl ?_ | refine G.condF rfl ?_); try (first | refine gl tb ?_ | refine gg tb ?_ | refine ll tb ?_ | refine lg tb ?_))
      refine GL.cons (Step.cat rfl (Op1.of rfl (by first | exact fun _ => rfl | exact fun h => h | exact fun h => bL h | exact fun h => bL (bL h) | exact fun h => bL (bL (bL h)))) (Op1.of rfl (by first | exact fun _ => rfl | exact fun h => h | exact fun h => bL h | exact fun h => bL (bL h) | exact fun h => bL (bL (bL h)))) (fun _ => by simp only [List.length_cons, List.length_nil]; omega) rfl ?_)
      try (first | refine gl tb ?_ | refine gg tb ?_ | refine ll tb ?_ | refine lg tb ?_); repeat ((first | refine G.condT rfl ?_ | refine G.condF rfl ?_); try (first | refine gl tb ?_ | refine gg tb ?_ | refine ll tb ?_ | refine lg tb ?_))
      refine GL.cons (Step.load1 tb rfl (Op1.of rfl (by first | exact fun _ => rfl | exact fun h => h | exact fun h => bL h | exact fun h => bL (bL h) | exact fun h => bL (bL (bL h)))) rfl rfl (fun _ => h4.cells.one) rfl ?_)
      try (first | refine gl tb ?_ | refine gg tb ?_ | refine ll tb ?_ | refine lg tb ?_); repeat ((first | refine G.condT rfl ?_ | refine G.condF rfl ?_); try (first | refine gl tb ?_ | refine gg tb ?_ | refine ll tb ?_ | refine lg tb ?_))
      refine GL.cons (Step.callF rfl rfl rfl c71 rfl (join_ok s (restL ls) B W h5 (by omega)) ?_)
      rintro _ W2 ⟨rfl, hx2⟩
      try (first | refine gl tb ?_ | refine gg tb ?_ | refine ll tb ?_ | refine lg tb ?_); repeat ((first | refine G.condT rfl ?_ | refine G.condF rfl ?_); try (first | refine gl tb ?_ | refine gg tb ?_ | refine ll tb ?_ | refine lg tb ?_))
      refine GL.cons (Step.cat rfl (Op1.of rfl (by first | exact fun _ => rfl | exact fun h => h | exact fun h => bL h | exact fun h => bL (bL h) | exact fun h => bL (bL (bL h)))) (Op1.of rfl (by first | exact fun _ => rfl | exact fun h => h | exact fun h => bL h | exact fun h => bL (bL h) | exact fun h => bL (bL (bL h)))) (fun _ => by simp only [List.length_append, List.length_cons, List.length_nil]; omega) rfl ?_)
      try (first | refine gl tb ?_ | refine gg tb ?_ | refine ll tb ?_ | refine lg tb ?_); repeat ((first | refine G.condT rfl ?_ | refine G.condF rfl ?_); try (first | refine gl tb ?_ | refine gg tb ?_ | refine ll tb ?_ | refine lg tb ?_))
      refine GL.cons (Step.cat rfl (Op1.of rfl (by first | exact fun _ => rfl | exact fun h => h | exact fun h => bL h | exact fun h => bL (bL h) | exact fun h => bL (bL (bL h)))) (Op1.of rfl (by first | exact fun _ => rfl | exact fun h => h | exact fun h => bL h | exact fun h => bL (bL h) | exact fun h => bL (bL (bL h)))) (fun _ => by simp only [List.length_append, List.length_cons, List.length_nil]; omega) rfl ?_)
      try (first | refine gl tb ?_ | refine gg tb ?_ | refine ll tb ?_ | refine lg tb ?_); repeat ((first | refine G.condT rfl ?_ | refine G.condF rfl ?_); try (first | refine gl tb ?_ | refine gg tb ?_ | refine ll tb ?_ | refine lg tb ?_))
      exact G.retM rfl rfl (hD.to hx2) fun t ht => ⟨_, res1 ht rfl rfl _, rfl, (h1.trans hx2).wr (outW_wr r _) hrw⟩
  · rintro r c W hr h hD
    exact h.elim
end Go.Proofs.YtfffblopkaandaaDoor
