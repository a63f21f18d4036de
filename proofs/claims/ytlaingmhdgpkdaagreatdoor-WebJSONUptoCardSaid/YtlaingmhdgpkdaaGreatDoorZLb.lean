/- Labels and lists in JSON, the program's and the reference's, walked. -/
import Derived.Test.YtlaingmhdgpkdaaGreatDoorZAw
import Derived.Lib.Join
open Go Go.Vg Go.RowKit Go.Proofs Go.Proofs.YtlaingmhdgpkdaaGreatDoor
namespace Go.Proofs.YtlaingmhdgpkdaaGreatDoor
set_option linter.unusedSimpArgs false

theorem all_ok (v : Value) (ls : List Lab) (w : World) (hv : Labs w v ls) :
    Ret Tryz.prog 38 ⟨[v]⟩ w fun r w' => ∃ b, r = .func (.func 62) #[] ⟨[ptr b]⟩ ∧ w.heap.size ≤ b ∧ Bx w' b [v] ∧ Ext w w' := by
  refine ret_of_G Tryz.func38 rfl Tryz.ntmps38 rfl ?_
  unfold argEnv argEnv
  try (first | refine gl tb ?_ | refine gg tb ?_ | refine ll tb ?_ | refine lg tb ?_); repeat ((first | refine G.condT rfl ?_ | refine G.condF rfl ?_); try (first | refine gl tb ?_ | refine gg tb ?_ | refine ll tb ?_ | refine lg tb ?_))
  refine GL.cons (Step.box rfl (Op1.of rfl (by first | exact fun _ => rfl | exact fun h => h | exact fun h => bL h | exact fun h => bL (bL h) | exact fun h => bL (bL (bL h)))) (hv.cells) rfl ?_)
  intro w1 hb hsz hx
  try (first | refine gl tb ?_ | refine gg tb ?_ | refine ll tb ?_ | refine lg tb ?_); repeat ((first | refine G.condT rfl ?_ | refine G.condF rfl ?_); try (first | refine gl tb ?_ | refine gg tb ?_ | refine ll tb ?_ | refine lg tb ?_))
  refine G.ret1 rfl rfl rfl rfl ?_
  exact ⟨_, rfl, Nat.le_refl _, hb, hx⟩

theorem all1_ok (v : Value) (ls : List Lab) (b : Nat) : IterOk Tryz.prog 62 [ptr b] (ls.map labC) (fun W => CellAt W (ptr b) v ∧ Labs W v ls) := by
  intro l I St w hD hI hSt h0 hY
  refine ret_of_G Tryz.func62 rfl Tryz.ntmps62 rfl ?_
  unfold argEnv argEnv argEnv
  have h0' := hD 0 w h0
  try (first | refine gl tb ?_ | refine gg tb ?_ | refine ll tb ?_ | refine lg tb ?_); repeat ((first | refine G.condT rfl ?_ | refine G.condF rfl ?_); try (first | refine gl tb ?_ | refine gg tb ?_ | refine ll tb ?_ | refine lg tb ?_))
  refine GL.cons (Step.load1 tb rfl (Op1.of rfl (by first | exact fun _ => rfl | exact fun h => h | exact fun h => bL h | exact fun h => bL (bL h) | exact fun h => bL (bL (bL h)))) rfl rfl (fun _ => h0'.1) rfl ?_)
  refine GL.cons (Step.lenV tb rfl (Op1.of rfl (by first | exact fun _ => rfl | exact fun h => h | exact fun h => bL h | exact fun h => bL (bL h) | exact fun h => bL (bL (bL h)))) rfl (fun _ => ⟨_, h0'.2⟩) rfl ?_)
  try (first | refine gl tb ?_ | refine gg tb ?_ | refine ll tb ?_ | refine lg tb ?_); repeat ((first | refine G.condT rfl ?_ | refine G.condF rfl ?_); try (first | refine gl tb ?_ | refine gg tb ?_ | refine ll tb ?_ | refine lg tb ?_))
  refine (G.loop (fun k : Nat => [(0, none, yieldV l), (5, none, v), (6, none, .int .i64 (ls.map labC).length), (7, none, .int .i64 k)]) (fun k w' => k ≤ ls.length ∧ I k w') (fun k => ls.length - k) 0 (by repeat (first | exact Sub.nil _ | refine Sub.cons rfl ?_)) ⟨by omega, h0⟩ ?_)
  rintro k w ⟨hk, hIk⟩
  try (first | refine gl tb ?_ | refine gg tb ?_ | refine ll tb ?_ | refine lg tb ?_); repeat ((first | refine G.condT rfl ?_ | refine G.condF rfl ?_); try (first | refine gl tb ?_ | refine gg tb ?_ | refine ll tb ?_ | refine lg tb ?_))
  simp only [List.length_map]
  first | refine G.condD rfl (fun hc => ?_) (fun hc => ?_) | refine G.condN rfl (fun hc => ?_) (fun hc => ?_) | refine G.cond rfl (fun hc => ?_) (fun hc => ?_)
  · have hlt : k < ls.length := by omega
    have hget : (ls.map labC)[k]? = some (labC ls[k]) := by simp [hlt]
    have hL := (hD k w hIk).2
    have hbd := hL.bound
    try (first | refine gl tb ?_ | refine gg tb ?_ | refine ll tb ?_ | refine lg tb ?_); repeat ((first | refine G.condT rfl ?_ | refine G.condF rfl ?_); try (first | refine gl tb ?_ | refine gg tb ?_ | refine ll tb ?_ | refine lg tb ?_))
    refine GL.cons (Step.indexAddr tb k rfl (Op1.of rfl (by first | exact fun _ => rfl | exact fun h => h | exact fun h => bL h | exact fun h => bL (bL h) | exact fun h => bL (bL (bL h)))) (Op1.of rfl (by first | exact fun _ => rfl | exact fun h => h | exact fun h => bL h | exact fun h => bL (bL h) | exact fun h => bL (bL (bL h)))) rfl rfl (fun _ => ⟨_, hL⟩) (fun _ => ⟨by omega, by simpa using hlt⟩) rfl ?_)
    refine GL.cons (Step.loadA (us := labC ls[k]) tb rfl (Op1.of rfl (by first | exact fun _ => rfl | exact fun h => h | exact fun h => bL h | exact fun h => bL (bL h) | exact fun h => bL (bL (bL h)))) rfl rfl rfl (fun _ => hL.elem hget) (fun _ => rfl) rfl ?_)
    try (first | refine gl tb ?_ | refine gg tb ?_ | refine ll tb ?_ | refine lg tb ?_); repeat ((first | refine G.condT rfl ?_ | refine G.condF rfl ?_); try (first | refine gl tb ?_ | refine gg tb ?_ | refine ll tb ?_ | refine lg tb ?_))
    refine GL.cons (Step.alloc tb rfl rfl rfl rfl ?_)
    intro w1 hb1 hs1 hx1
    refine GL.cons (Step.store0 (vs := labC ls[k]) tb rfl (Op1.of rfl (by first | exact fun _ => rfl | exact fun h => h | exact fun h => bL h | exact fun h => bL (bL h) | exact fun h => bL (bL (bL h)))) (Op1.of rfl (by first | exact fun _ => rfl | exact fun h => h | exact fun h => bL h | exact fun h => bL (bL h) | exact fun h => bL (bL (bL h)))) rfl rfl rfl (by simp [Value.oneCell', S, labC]) hb1 rfl ?_)
    intro w2 hb2 hw2
    try (first | refine gl tb ?_ | refine gg tb ?_ | refine ll tb ?_ | refine lg tb ?_); repeat ((first | refine G.condT rfl ?_ | refine G.condF rfl ?_); try (first | refine gl tb ?_ | refine gg tb ?_ | refine ll tb ?_ | refine lg tb ?_))
    refine GL.cons (Step.fieldAddr tb rfl (Op1.of rfl (by first | exact fun _ => rfl | exact fun h => h | exact fun h => bL h | exact fun h => bL (bL h) | exact fun h => bL (bL (bL h)))) rfl rfl rfl rfl (fun _ => ptr_ptr _) rfl ?_)
    refine GL.cons (Step.load1 tb rfl (Op1.of rfl (by first | exact fun _ => rfl | exact fun h => h | exact fun h => bL h | exact fun h => bL (bL h) | exact fun h => bL (bL (bL h)))) rfl rfl (fun _ => hb2.cells.cell (i := 0) rfl) rfl ?_)
    refine GL.cons (Step.fieldAddr tb rfl (Op1.of rfl (by first | exact fun _ => rfl | exact fun h => h | exact fun h => bL h | exact fun h => bL (bL h) | exact fun h => bL (bL (bL h)))) rfl rfl rfl rfl (fun _ => ptr_ptr _) rfl ?_)
    refine GL.cons (Step.load1 tb rfl (Op1.of rfl (by first | exact fun _ => rfl | exact fun h => h | exact fun h => bL h | exact fun h => bL (bL h) | exact fun h => bL (bL (bL h)))) rfl rfl (fun _ => hb2.cells.cell (i := 1) rfl) rfl ?_)
    have hext : Ext w w2 := Below.wr hx1 hw2 (Nat.le_refl _)
    refine GL.cons (Step.yield rfl (Op1.of rfl (by first | exact fun _ => rfl | exact fun h => h | exact fun h => bL h | exact fun h => bL (bL h) | exact fun h => bL (bL (bL h)))) rfl rfl rfl (hY k _ w2 hget (hI _ _ _ hIk hext)) ?_)
    intro bb w3 hR
    cases bb with
    | true =>
      try (first | refine gl tb ?_ | refine gg tb ?_ | refine ll tb ?_ | refine lg tb ?_); repeat ((first | refine G.condT rfl ?_ | refine G.condF rfl ?_); try (first | refine gl tb ?_ | refine gg tb ?_ | refine ll tb ?_ | refine lg tb ?_))
      refine GL.cons (Step.arith rfl (Op1.of rfl (by first | exact fun _ => rfl | exact fun h => h | exact fun h => bL h | exact fun h => bL (bL h) | exact fun h => bL (bL (bL h)))) (Op1.of rfl (by first | exact fun _ => rfl | exact fun h => h | exact fun h => bL h | exact fun h => bL (bL h) | exact fun h => bL (bL (bL h)))) (wrap_i64 (by omega) (by omega)) rfl ?_)
      try (first | refine gl tb ?_ | refine gg tb ?_ | refine ll tb ?_ | refine lg tb ?_); repeat ((first | refine G.condT rfl ?_ | refine G.condF rfl ?_); try (first | refine gl tb ?_ | refine gg tb ?_ | refine ll tb ?_ | refine lg tb ?_))
      exact G.lp (k + 1) (by repeat (first | exact Sub.nil _ | refine Sub.cons rfl ?_)) ⟨by omega, hR⟩ (by omega)
    | false =>
      try (first | refine gl tb ?_ | refine gg tb ?_ | refine ll tb ?_ | refine lg tb ?_); repeat ((first | refine G.condT rfl ?_ | refine G.condF rfl ?_); try (first | refine gl tb ?_ | refine gg tb ?_ | refine ll tb ?_ | refine lg tb ?_))
      exact G.ret0 rfl rfl rfl (.inr hR)
  · try (first | refine gl tb ?_ | refine gg tb ?_ | refine ll tb ?_ | refine lg tb ?_); repeat ((first | refine G.condT rfl ?_ | refine G.condF rfl ?_); try (first | refine gl tb ?_ | refine gg tb ?_ | refine ll tb ?_ | refine lg tb ?_))
    obtain rfl : k = ls.length := by omega
    exact G.end0 rfl rfl rfl (.inl (by simpa using hIk))

def joinL (ss : List (List UInt8)) : List UInt8 := Lib.join ss [44]
theorem Owns1.one {w : World} {B : Nat} {v : Value} {et k : Nat} {xs : List (List Value)} (h : Owns w B v et k xs) : ∀ c ∈ [v], c.oneCell' = true := by
  intro c hc
  simp only [List.mem_cons, List.not_mem_nil, or_false] at hc
  subst hc
  rcases h.1.2 with ⟨rfl, _⟩ | ⟨g, cap, cur, rfl, _⟩ <;> rfl
theorem lens_le {m : Nat} : ∀ {ss : List (List UInt8)}, (∀ s ∈ ss, s.length ≤ m) → Lib.lens ss ≤ m * ss.length
  | [], _ => by simp [Lib.lens]
  | a :: r, h => by
    have h1 := h a (by simp)
    have h2 := lens_le (m := m) (ss := r) (fun s hs => h s (by simp [hs]))
    have : Lib.lens (a :: r) = a.length + Lib.lens r := by simp [Lib.lens]
    rw [this, List.length_cons, Nat.mul_succ]; omega
theorem joinL_len {m : Nat} {ss : List (List UInt8)} (h : ∀ s ∈ ss, s.length ≤ m) : (joinL ss).length ≤ (m + 1) * ss.length := by
  cases ss with
  | nil => simp [joinL, Lib.join_nil]
  | cons a r =>
    have h1 := Lib.join_length a r [44]
    have h2 := lens_le h
    unfold joinL
    rw [h1, Nat.succ_mul]
    simp only [List.length_cons, List.length_nil] at h2 ⊢; omega
theorem join_ok (s : Value) (ss : List (List UInt8)) (B : Nat) (w : World) (h : SO w B s ss) (hl : (joinL ss).length ≤ 140737488355328) :
    Ret Tryz.prog 39 ⟨[s, S [44]]⟩ w fun r w' => r = S (joinL ss) ∧ Ext w w' := by
  have hlen := h.2.2
  rw [List.length_map] at hlen
  have hfl : ∀ (j : Nat) (x : List UInt8), ss[j]? = some x → (ss.map strC).flatten[j]? = some (S x) := by
    intro j x hj
    have := flatten_get (k := 1) (ss.map strC) h.2.1 j [S x] (by simp [hj, strC]) 0 (S x) rfl
    simpa using this
  rcases h.1.2 with ⟨rfl, hn⟩ | ⟨g, cap, cur, rfl, hB, hg, hc, hm, hs, ht⟩
  · have : ss = [] := by simpa using hn
    subst this
    refine Calls.mono (Any.strings_Join_none Tryz.lays156 Tryz.Builder_Extra_156 none 0 ⟨⟨[44]⟩⟩ w) ?_
    rintro e w' ⟨he, rfl⟩
    exact ⟨_, he, rfl, Ext.refl _⟩
  · rw [List.length_map] at hc ht ⊢
    have hmap : ((ss.map fun s => (⟨⟨s⟩⟩ : ByteArray)).map (·.data.toList)) = ss := by simp [Function.comp_def]
    have key := Any.strings_Join Tryz.lays156 Tryz.Builder_Extra_156 g 0 cap (ss.map fun s => (⟨⟨s⟩⟩ : ByteArray)) ⟨⟨[44]⟩⟩ w ?_ (Array.getElem?_eq_some_iff.1 hg).1 (by simpa using hlen) (by simpa using hc) (by rw [hmap]; exact hl)
    · rw [hmap, List.length_map] at key
      exact Calls.mono key fun e w' ⟨he, hb⟩ => ⟨_, he, rfl, hb⟩
    · intro j x hx
      simp only [List.getElem?_map, Option.map_eq_some_iff] at hx
      obtain ⟨y, hy, rfl⟩ := hx
      have h1 := hfl j y hy
      rw [← ht] at h1
      have h2 : j < ss.length * 1 := by have := (List.getElem?_eq_some_iff.1 hy).1; omega
      rw [List.getElem?_take_of_lt h2] at h1
      rw [Nat.zero_add, cell_of_row w g j cur _ (0, 0) hg]
      have h3 : cur[j]? = some (S y) := by simpa using h1
      exact h3

def partJ (x : Lab) : List UInt8 := quoteP x.1 ++ [58] ++ quoteP x.2
def labelsJ (ls : List Lab) : List UInt8 := [123] ++ joinL (ls.map partJ) ++ [125]
def listJ (ts : List (List UInt8)) : List UInt8 := [91] ++ joinL (ts.map quoteP) ++ [93]
theorem joinL_snoc (ss : List (List UInt8)) (x : List UInt8) : joinL (ss ++ [x]) = if ss = [] then x else joinL ss ++ [44] ++ x := by
  cases ss with
  | nil => exact Lib.join_one x [44]
  | cons a r =>
    rw [if_neg (by simp)]
    unfold joinL
    rw [List.cons_append, Lib.join_cons, Lib.join_cons]
    simp [Lib.joinTail]
theorem partJ_len {x : Lab} (h : x.1.length ≤ 2000000 ∧ x.2.length ≤ 2000000) : (partJ x).length ≤ 24000005 := by
  have h1 := quoteP_len x.1
  have h2 := quoteP_len x.2
  simp only [partJ, List.length_append, List.length_cons, List.length_nil]; omega
theorem parts_len {ls : List Lab} (h : ∀ x ∈ ls, x.1.length ≤ 2000000 ∧ x.2.length ≤ 2000000) (hn : ls.length ≤ 20) : (joinL (ls.map partJ)).length ≤ 500000000 := by
  have := joinL_len (m := 24000005) (ss := ls.map partJ) (fun s hs => by
    obtain ⟨x, hx, rfl⟩ := List.mem_map.1 hs
    exact partJ_len (h x hx))
  rw [List.length_map] at this
  have h2 := Nat.mul_le_mul_left (24000005 + 1) hn
  omega
theorem quotes_len {ts : List (List UInt8)} (h : ∀ x ∈ ts, x.length ≤ 2000000) (hn : ts.length ≤ 20) : (joinL (ts.map quoteP)).length ≤ 500000000 := by
  have := joinL_len (m := 24000005) (ss := ts.map quoteP) (fun s hs => by
    obtain ⟨x, hx, rfl⟩ := List.mem_map.1 hs
    have h1 := quoteP_len x
    have := h x hx
    omega)
  rw [List.length_map] at this
  have h2 := Nat.mul_le_mul_left (24000005 + 1) hn
  omega
set_option maxHeartbeats 1000000 in
theorem labels_ok (v : Value) (ls : List Lab) (w : World) (hv : Labs w v ls) (hn : ls.length ≤ 20) (hz : ∀ x ∈ ls, x.1.length ≤ 2000000 ∧ x.2.length ≤ 2000000) (hT : Tabs w) :
    Ret Tryz.prog 19 ⟨[v]⟩ w fun r w' => r = S (labelsJ ls) ∧ Ext w w' := by
  refine ret_of_GM Tryz.func19 rfl Tryz.ntmps19 rfl ?_
  simp only [argEnv]
  try (first | refine gl tb ?_ | refine gg tb ?_ | refine ll tb ?_ | refine lg tb ?_); repeat ((first | refine G.condT rfl ?_ | refine G.condF rfl ?_); try (first | refine gl tb ?_ | refine gg tb ?_ | refine ll tb ?_ | refine lg tb ?_))
  refine GL.cons (Step.alloc tb rfl rfl rfl rfl ?_)
  intro w2 hb2 hs2 hx2
  have hx02 := hx2
  try (first | refine gl tb ?_ | refine gg tb ?_ | refine ll tb ?_ | refine lg tb ?_); repeat ((first | refine G.condT rfl ?_ | refine G.condF rfl ?_); try (first | refine gl tb ?_ | refine gg tb ?_ | refine ll tb ?_ | refine lg tb ?_))
  refine GL.cons (Step.callF rfl rfl rfl c38 rfl (all_ok v ls w2 (hv.to hx02)) ?_)
  rintro r w3 ⟨b, rfl, hb, hbx, hx3⟩
  have hb3 := hb2.to hx3
  have hx03 : Ext w w3 := hx02.trans hx3
  have hbne : w.heap.size < b := by omega
  obtain ⟨B, hB⟩ : ∃ B, B = w3.heap.size := ⟨_, rfl⟩
  have hB1 : w.heap.size < B := by have := hx3.size; omega
  have hB2 : b < B := by rw [hB]; exact hbx.lt
  have hB3 : w.heap.size ≤ B := by rw [hB]; exact hx03.size
  try (first | refine gl tb ?_ | refine gg tb ?_ | refine ll tb ?_ | refine lg tb ?_); repeat ((first | refine G.condT rfl ?_ | refine G.condF rfl ?_); try (first | refine gl tb ?_ | refine gg tb ?_ | refine ll tb ?_ | refine lg tb ?_))
  refine G.rangeFunc rfl rfl c62 (all1_ok v ls b) rfl rfl (by intro x hx; obtain ⟨y, _, rfl⟩ := List.mem_map.1 hx; rfl)
    (fun i W => Ext w W ∧ Bx W b [v] ∧ B ≤ W.heap.size ∧ ∃ s, Bx W w.heap.size [s] ∧ SO W B s ((ls.take i).map partJ)) (fun _ _ => False) ?_ ?_ ?_ ?_ ?_ ?_ ?_
  · rintro l hl i W W' ⟨h1, h2, h3, s, h4, h5⟩ hk
    exact ⟨Below.kept h1 hk (by have := hx03.size; omega) h1.size, h2.kept hk, by have := hk.2.size; omega, s, h4.kept hk, h5.kept hk⟩
  · exact fun _ _ _ _ _ h _ => h
  · rintro i W ⟨h1, h2, _⟩
    exact ⟨h2.cells.one, hv.to h1⟩
  · exact fun w' h => ⟨hx03.trans h, hbx.to h, by rw [hB]; exact h.size, _, hb3.to h, Owns.nil _ _ _ _⟩
  · rintro l r rc i x W hl hlr hxi ⟨h1, h2, h3, s, h4, h5⟩ hLp
    simp only [List.getElem?_map, Option.map_eq_some_iff] at hxi
    obtain ⟨y, hy, rfl⟩ := hxi
    try (first | refine gl tb ?_ | refine gg tb ?_ | refine ll tb ?_ | refine lg tb ?_); repeat ((first | refine G.condT rfl ?_ | refine G.condF rfl ?_); try (first | refine gl tb ?_ | refine gg tb ?_ | refine ll tb ?_ | refine lg tb ?_))
    refine G.beg rfl rfl rfl hLp hlr ?_
    intro W2 hk hLp2 hsz
    have h1' : Ext w W2 := Below.kept h1 hk (by omega) h1.size
    have h2' := h2.kept hk
    have h4' := h4.kept hk
    have h5' := h5.kept hk
    have hBW : B ≤ W2.heap.size := by omega
    clear h1 h2 h4 h5 hk hLp
    have hmem : y ∈ ls := List.mem_of_getElem? hy
    have hlt : i < ls.length := (List.getElem?_eq_some_iff.1 hy).1
    have htk : ls.take (i + 1) = ls.take i ++ [y] := by
      rw [List.take_succ_eq_append_getElem hlt, (List.getElem?_eq_some_iff.1 hy).2]
    have hrs : (ls.take (i + 1)).map partJ = (ls.take i).map partJ ++ [partJ y] := by rw [htk, List.map_append]; rfl
    have hrl : ((ls.take i).map partJ).length ≤ 20 := by
      rw [List.length_map, List.length_take]; omega
    try (first | refine gl tb ?_ | refine gg tb ?_ | refine ll tb ?_ | refine lg tb ?_); repeat ((first | refine G.condT rfl ?_ | refine G.condF rfl ?_); try (first | refine gl tb ?_ | refine gg tb ?_ | refine ll tb ?_ | refine lg tb ?_))
    refine G.regionG (fun _ => True) mixed trivial ?_
    have h1 : Ext w W2.drew := h1'.drew'
    have h2 : Bx W2.drew b [v] := h2'
    have h4 : Bx W2.drew w.heap.size [s] := h4'
    have h5 := h5'.to (Ext.drew W2)
    have hBW : B ≤ W2.drew.heap.size := by simpa using hBW
    have hLp := hLp2.to (Ext.drew W2)
    generalize W2.drew = W3 at h1 h2 h4 h5 hBW hLp ⊢
    clear h1' h2' h4' h5' hLp2 hsz
    have hyz := hz y hmem
    have hTW := hT.to h1
    have hq1 := quote_ok y.1 W3 hyz.1 hTW
    have hq2 := fun (W4 : World) (hx : Ext W3 W4) => quote_ok y.2 W4 hyz.2 (hTW.to hx)
    have hl1 := quoteP_len y.1
    have hl2 := quoteP_len y.2
    refine GD.join [0, 1, 2, 3, 4, 5, 6, 7] (fun x : Value => [(3, none, ptr w.heap.size), (10, none, s), (17, none, x)]) (fun x w' => Ext W3 w' ∧ SO w' W3.heap.size x [partJ y]) ?_ fun meet => ?_
    · rintro s21 W4 ⟨hx4, ho21⟩
      simp only at ho21 ⊢
      refine GD.steps ([(8, false), (9, false)]) (by kernel_rfl) (by kernel_rfl) rfl ?_
      refine GM.eff (Step.append tb rfl (Op1.of rfl (by first | exact fun _ => rfl | exact fun h => h | exact fun h => bL h | exact fun h => bL (bL h) | exact fun h => bL (bL (bL h)))) (Op1.of rfl (by first | exact fun _ => rfl | exact fun h => h | exact fun h => bL h | exact fun h => bL (bL h) | exact fun h => bL (bL (bL h)))) rfl rfl rfl (by rfl) (h5.to hx4) (ho21.sli) (str1 [partJ y]) (by simp only [List.length_map, List.length_append, List.length_cons, List.length_nil, List.length_take, List.length_drop]; omega) (by simp only [List.length_map, List.length_append, List.length_cons, List.length_nil, List.length_take, List.length_drop]; omega) (by have := hx4.size; omega) rfl ?_)
      intro s22 W5 ho22 hg5
      refine ⟨trivial, ?_⟩
      have h45 := (h4.to hx4).grew hg5 ((h5.to hx4).ne hB1)
      refine GM.eff (Step.store0 tb rfl (Op1.of rfl (by first | exact fun _ => rfl | exact fun h => h | exact fun h => bL h | exact fun h => bL (bL h) | exact fun h => bL (bL (bL h)))) (Op1.of rfl (by first | exact fun _ => rfl | exact fun h => h | exact fun h => bL h | exact fun h => bL (bL h) | exact fun h => bL (bL (bL h)))) rfl (ho22.cells) rfl (Owns1.one ho22) h45 rfl ?_)
      intro W6 hb6 hw6
      refine ⟨trivial, ?_⟩
      refine GM.nil ?_
      refine GD.done (by kernel_rfl) ?_
      have hb45 : Below w.heap.size W4 W5 := (hg5.below _ (Below.refl _ _)).mono hB3
      have hx5 : Ext w W5 := Below.trans (B := w.heap.size) (h1.trans hx4) hb45
      have hx6 : Ext w W6 := Below.wr hx5 hw6 (Nat.le_refl _)
      have hL6 := ((h5.to hx4).lp (hLp.to hx4) hg5).wr h45 hw6
      have h26 := ((h2.to hx4).grew hg5 ((h5.to hx4).ne hB2)).wr hw6 (by omega)
      have hs6 : B ≤ W6.heap.size := by have := hx4.size; have := hg5.size; have := hw6.size; omega
      exact G.nil fun t _ => ⟨hL6, hx6, h26, hs6, s22, hb6, by rw [hrs]; unfold SO; rw [List.map_append]; exact ho22.wr hw6 hB1⟩
    · refine GD.steps ([(1, true), (4, true)]) (by kernel_rfl) (by kernel_rfl) rfl ?_
      repeat (first
    | refine GM.nil ?_
    | refine GM.read (fun w' hS => Step.move rfl (Op1.of rfl (by first | exact fun _ => rfl | exact fun h => h | exact fun h => bL h | exact fun h => bL (bL h) | exact fun h => bL (bL (bL h)))) rfl ⟨rfl, rfl⟩) rfl rfl ?_
    | refine GM.read (fun w' hS => Step.assign rfl (Op1.of rfl (by first | exact fun _ => rfl | exact fun h => h | exact fun h => bL h | exact fun h => bL (bL h) | exact fun h => bL (bL (bL h)))) rfl ⟨rfl, rfl⟩) rfl rfl ?_
    | refine GM.read (fun w' hS => Step.bin rfl (Op1.of rfl (by first | exact fun _ => rfl | exact fun h => h | exact fun h => bL h | exact fun h => bL (bL h) | exact fun h => bL (bL (bL h)))) (Op1.of rfl (by first | exact fun _ => rfl | exact fun h => h | exact fun h => bL h | exact fun h => bL (bL h) | exact fun h => bL (bL (bL h)))) rfl rfl ⟨rfl, rfl⟩) rfl rfl ?_
    | refine GM.read (fun w' hS => Step.and rfl (Op1.of rfl (by first | exact fun _ => rfl | exact fun h => h | exact fun h => bL h | exact fun h => bL (bL h) | exact fun h => bL (bL (bL h)))) rfl (by first | exact fun _ _ => rfl | exact fun _ h => h | exact fun _ h => bNot h | exact fun h k => bAnd h k | exact fun h k => bAnd h (bNot k)) rfl ⟨rfl, rfl⟩) rfl rfl ?_
    | refine GM.read (fun w' hS => Step.or rfl (Op1.of rfl (by first | exact fun _ => rfl | exact fun h => h | exact fun h => bL h | exact fun h => bL (bL h) | exact fun h => bL (bL (bL h)))) rfl (by first | exact fun _ _ => rfl | exact fun _ h => h | exact fun _ h => bNot h | exact fun h k => bAnd h k | exact fun h k => bAnd h (bNot k)) rfl ⟨rfl, rfl⟩) rfl rfl ?_
    | refine GM.read (fun w' hS => Step.lenS tb rfl (Op1.of rfl (by first | exact fun _ => rfl | exact fun h => h | exact fun h => bL h | exact fun h => bL (bL h) | exact fun h => bL (bL (bL h)))) rfl rfl ⟨rfl, rfl⟩) rfl rfl ?_
    | refine GM.read (fun w' hS => Step.un rfl (Op1.of rfl (by first | exact fun _ => rfl | exact fun h => h | exact fun h => bL h | exact fun h => bL (bL h) | exact fun h => bL (bL (bL h)))) rfl rfl ⟨rfl, rfl⟩) rfl rfl ?_
    | refine GM.read (fun w' hS => Step.extract rfl (Op1.of rfl (by first | exact fun _ => rfl | exact fun h => h | exact fun h => bL h | exact fun h => bL (bL h) | exact fun h => bL (bL (bL h)))) rfl rfl ⟨rfl, rfl⟩) rfl rfl ?_)
      refine GD.two (0) (2) (by kernel_rfl) (by kernel_rfl) rfl rfl ?_ ?_
      · refine (Step.load1 tb rfl (Op1.of rfl (by first | exact fun _ => rfl | exact fun h => h | exact fun h => bL h | exact fun h => bL (bL h) | exact fun h => bL (bL (bL h)))) rfl rfl (fun _ => h4.cells.one) rfl ?_)
        refine ⟨trivial, ?_⟩
        refine GD.steps ([(2, false), (3, true), (5, false), (6, true), (7, false)]) (by kernel_rfl) (by kernel_rfl) rfl ?_
        refine GM.eff (Step.callF rfl rfl rfl c7 rfl (hq1) ?_)
        rintro _ W4 ⟨rfl, hx4⟩
        refine ⟨trivial, ?_⟩
        refine dCat tb ?_
        refine GM.eff (Step.callF rfl rfl rfl c7 rfl (hq2 W4 hx4) ?_)
        rintro _ W5 ⟨rfl, hx5⟩
        refine ⟨trivial, ?_⟩
        refine dCat tb ?_
        refine GM.eff (Step.buildSlice tb ([[S (partJ y)]]) rfl rfl rfl rfl rfl rfl (by rfl) rfl (by rfl) (by rfl) (by rfl) (by simp) rfl ?_)
        intro s21 W6 ho6 hs6 hx6
        refine ⟨trivial, ?_⟩
        refine GM.nil ?_
        exact meet s21 _ _ _ rfl rfl (by repeat (first | exact Sub.nil _ | refine Sub.cons rfl ?_)) ⟨(hx4.trans hx5).trans hx6, ho6.mono (hx4.trans hx5).size⟩
      · refine (Step.callF rfl rfl rfl c7 rfl (hq1) ?_)
        rintro _ W4 ⟨rfl, hx4⟩
        refine ⟨trivial, ?_⟩
        have h44 := h4.to hx4
        refine GD.steps ([(3, true)]) (by kernel_rfl) (by kernel_rfl) rfl ?_
        refine dCat tb ?_
        refine GM.nil ?_
        refine GD.two (0) (5) (by kernel_rfl) (by kernel_rfl) rfl rfl ?_ ?_
        · refine (Step.load1 tb rfl (Op1.of rfl (by first | exact fun _ => rfl | exact fun h => h | exact fun h => bL h | exact fun h => bL (bL h) | exact fun h => bL (bL (bL h)))) rfl rfl (fun _ => h44.cells.one) rfl ?_)
          refine ⟨trivial, ?_⟩
          refine GD.steps ([(5, false), (6, true), (7, false)]) (by kernel_rfl) (by kernel_rfl) rfl ?_
          refine GM.eff (Step.callF rfl rfl rfl c7 rfl (hq2 W4 hx4) ?_)
          rintro _ W5 ⟨rfl, hx5⟩
          refine ⟨trivial, ?_⟩
          refine dCat tb ?_
          refine GM.eff (Step.buildSlice tb ([[S (partJ y)]]) rfl rfl rfl rfl rfl rfl (by rfl) rfl (by rfl) (by rfl) (by rfl) (by simp) rfl ?_)
          intro s21 W6 ho6 hs6 hx6
          refine ⟨trivial, ?_⟩
          refine GM.nil ?_
          exact meet s21 _ _ _ rfl rfl (by repeat (first | exact Sub.nil _ | refine Sub.cons rfl ?_)) ⟨(hx4.trans hx5).trans hx6, ho6.mono (hx4.trans hx5).size⟩
        · refine (Step.callF rfl rfl rfl c7 rfl (hq2 W4 hx4) ?_)
          rintro _ W5 ⟨rfl, hx5⟩
          refine ⟨trivial, ?_⟩
          have h55 := h44.to hx5
          refine GD.steps ([(6, true)]) (by kernel_rfl) (by kernel_rfl) rfl ?_
          refine dCat tb ?_
          refine GM.nil ?_
          refine GD.two (0) (7) (by kernel_rfl) (by kernel_rfl) rfl rfl ?_ ?_
          · refine (Step.load1 tb rfl (Op1.of rfl (by first | exact fun _ => rfl | exact fun h => h | exact fun h => bL h | exact fun h => bL (bL h) | exact fun h => bL (bL (bL h)))) rfl rfl (fun _ => h55.cells.one) rfl ?_)
            refine ⟨trivial, ?_⟩
            refine GD.steps ([(7, false)]) (by kernel_rfl) (by kernel_rfl) rfl ?_
            refine GM.eff (Step.buildSlice tb ([[S (partJ y)]]) rfl rfl rfl rfl rfl rfl (by rfl) rfl (by rfl) (by rfl) (by rfl) (by simp) rfl ?_)
            intro s21 W6 ho6 hs6 hx6
            refine ⟨trivial, ?_⟩
            refine GM.nil ?_
            exact meet s21 _ _ _ rfl rfl (by repeat (first | exact Sub.nil _ | refine Sub.cons rfl ?_)) ⟨(hx4.trans hx5).trans hx6, ho6.mono (hx4.trans hx5).size⟩
          · refine (Step.buildSlice tb ([[S (partJ y)]]) rfl rfl rfl rfl rfl rfl (by rfl) rfl (by rfl) (by rfl) (by rfl) (by simp) rfl ?_)
            intro s21 W6 ho6 hs6 hx6
            refine ⟨trivial, ?_⟩
            refine GD.steps ([(0, false)]) (by kernel_rfl) (by kernel_rfl) rfl ?_
            refine GM.eff (Step.load1 tb rfl (Op1.of rfl (by first | exact fun _ => rfl | exact fun h => h | exact fun h => bL h | exact fun h => bL (bL h) | exact fun h => bL (bL (bL h)))) rfl rfl (fun _ => (h55.to hx6).cells.one) rfl ?_)
            refine ⟨trivial, ?_⟩
            refine GM.nil ?_
            exact meet s21 _ _ _ rfl rfl (by repeat (first | exact Sub.nil _ | refine Sub.cons rfl ?_)) ⟨(hx4.trans hx5).trans hx6, ho6.mono (hx4.trans hx5).size⟩
  · rintro r W hr ⟨h1, h2, h3, s, h4, h5⟩ hD
    rw [List.length_map, List.take_length] at h5
    have hjl := parts_len hz hn
    have hrw : w.heap.size ≤ r := by omega
    try (first | refine gl tb ?_ | refine gg tb ?_ | refine ll tb ?_ | refine lg tb ?_); repeat ((first | refine G.condT rfl ?_ | refine G.condF rfl ?_); try (first | refine gl tb ?_ | refine gg tb ?_ | refine ll tb ?_ | refine lg tb ?_))
    refine GL.cons (Step.load1 tb rfl (Op1.of rfl (by first | exact fun _ => rfl | exact fun h => h | exact fun h => bL h | exact fun h => bL (bL h) | exact fun h => bL (bL (bL h)))) rfl rfl (fun _ => h4.cells.one) rfl ?_)
    try (first | refine gl tb ?_ | refine gg tb ?_ | refine ll tb ?_ | refine lg tb ?_); repeat ((first | refine G.condT rfl ?_ | refine G.condF rfl ?_); try (first | refine gl tb ?_ | refine gg tb ?_ | refine ll tb ?_ | refine lg tb ?_))
    refine GL.cons (Step.callF rfl rfl rfl c39 rfl (join_ok s (ls.map partJ) B W h5 (by omega)) ?_)
    rintro _ W2 ⟨rfl, hx2⟩
    try (first | refine gl tb ?_ | refine gg tb ?_ | refine ll tb ?_ | refine lg tb ?_); repeat ((first | refine G.condT rfl ?_ | refine G.condF rfl ?_); try (first | refine gl tb ?_ | refine gg tb ?_ | refine ll tb ?_ | refine lg tb ?_))
    refine sCat tb ?_
    refine sCat tb ?_
    try (first | refine gl tb ?_ | refine gg tb ?_ | refine ll tb ?_ | refine lg tb ?_); repeat ((first | refine G.condT rfl ?_ | refine G.condF rfl ?_); try (first | refine gl tb ?_ | refine gg tb ?_ | refine ll tb ?_ | refine lg tb ?_))
    exact G.retM rfl rfl (hD.to hx2) fun t ht => ⟨_, res1 ht rfl rfl _, rfl, (h1.trans hx2).wr (outW_wr r _) hrw⟩
  · rintro r c W hr h hD
    exact h.elim
end Go.Proofs.YtlaingmhdgpkdaaGreatDoor
