/- Rows shifted: their capacity, copies within them, room made behind them, a call of a function without a body. -/
import Derived.Test.YtbnckhfkkoncbaaGV2
import Derived.Lib.Overlaps
import Derived.Lib.AppendZerosOnto
namespace Go.Vg
open Go.RowKit

theorem Owns.shape {w : World} {B : Nat} {v : Value} {et k : Nat} {xs : List (List Value)} (h : Owns w B v et k xs) (h0 : 0 < xs.length) :
    ∃ g cap cur, v = .slice (some ⟨g, 0, none⟩) xs.length cap ∧ B ≤ g ∧ w.heap[g]? = some (.cells cur et (0, 0)) ∧ xs.length ≤ cap ∧ cap ≤ maxLen ∧ cur.size = cap * k ∧ cur.toList.take (xs.length * k) = xs.flatten := by
  rcases h.1.2 with ⟨_, hn⟩ | h
  · omega
  · exact h
/-- one element more of the room behind a row -/
theorem Owns.up {w : World} {B g cap : Nat} {et k : Nat} {xs : List (List Value)} (h : Owns w B (.slice (some ⟨g, 0, none⟩) xs.length cap) et k xs) (hc : xs.length < cap) (hb : xs.length + 1 ≤ 140737488355328) :
    ∃ y, Owns w B (.slice (some ⟨g, 0, none⟩) (xs.length + 1) cap) et k (xs ++ [y]) := by
  obtain ⟨⟨hl, hr⟩, hk, _⟩ := h
  rcases hr with ⟨hv, _⟩ | ⟨g', cap', cur, hv, hB, hg, hc', hm, hs, ht⟩
  · cases hv
  · cases hv
    have hle : (xs.length + 1) * k ≤ cap * k := Nat.mul_le_mul_right _ hc
    rw [Nat.add_mul, Nat.one_mul] at hle
    have hsz : cur.toList.length = cap * k := by rw [Array.length_toList]; exact hs
    have hy : ((cur.toList.drop (xs.length * k)).take k).length = k := by rw [List.length_take, List.length_drop]; omega
    refine ⟨(cur.toList.drop (xs.length * k)).take k, ⟨?_, .inr ⟨g, cap, cur, by simp, hB, hg, by simp; omega, hm, hs, ?_⟩⟩, ?_, by simp; omega⟩
    · simp only [List.flatten_append, List.length_append, hl, List.flatten_cons, List.flatten_nil, List.append_nil, hy, List.length_cons, List.length_nil, Nat.add_mul, Nat.zero_add, Nat.one_mul]
    · simp only [List.flatten_append, List.length_append, List.flatten_cons, List.flatten_nil, List.append_nil, List.length_cons, List.length_nil, Nat.add_mul, Nat.zero_add, Nat.one_mul]
      rw [← ht, List.take_add]
    · intro x hx
      rcases List.mem_append.1 hx with hx | hx
      · exact hk x hx
      · simp only [List.mem_cons, List.not_mem_nil, or_false] at hx
        subst hx; exact hy

/-- a row with others laid over it from one place on -/
def lay {α : Type} (xs : List α) (o : Nat) (ys : List α) : List α := xs.take o ++ ys ++ xs.drop (o + ys.length)
theorem lay_len {α : Type} {xs ys : List α} {o : Nat} (h : o + ys.length ≤ xs.length) : (lay xs o ys).length = xs.length := by simp [lay]; omega

theorem cellsOf {w : World} {a : Addr} {k : Nat} {ys : List (List Value)} {n cap : Nat} (hs : Sli w (.slice (some a) n cap) k ys) (hk : 0 < k) : ∀ j u, ys.flatten[j]? = some u → w.cell? (a.add j) = some u := by
  rcases hs with ⟨h, _⟩ | ⟨a', cap', hv, hsp, hc, hyl, hcell, hyb⟩
  · cases h
  · cases hv
    intro j u hj
    have hj' : j < ys.length * k := by rw [← flatten_length ys hyl]; exact (List.getElem?_eq_some_iff.1 hj).1
    have hq : j / k < ys.length := Nat.div_lt_of_lt_mul (by rw [Nat.mul_comm]; exact hj')
    have hyq : ys[j / k]? = some ys[j / k] := List.getElem?_eq_getElem hq
    have hlen : (ys[j / k]).length = k := hyl _ (List.getElem_mem hq)
    have hr' : j % k < (ys[j / k]).length := by rw [hlen]; exact Nat.mod_lt _ hk
    have hu2 := List.getElem?_eq_getElem hr'
    have e1 : j / k * k + j % k = j := by rw [Nat.mul_comm]; exact Nat.div_add_mod j k
    have h5 := flatten_get ys hyl _ _ hyq _ _ hu2
    rw [e1, hj] at h5
    cases h5
    have := hcell _ _ hyq _ _ hu2
    rwa [e1] at this

section
variable {X : Cx} {ops : Array Oper} {l : List Oper} {kk : List Kt} {e : Env} {w : World} {N : Env → World → Prop} {d : Nat} {c : Option Bool} {ty : TypeId} {pos : String} {af : Array Edge} {g : Option (Nat × Bool)}

/-- copy, into a row of one's own -/
theorem Step.copyO (T : Tb X.P) {x y : Operand} {t et : TypeId} {v u z : Value} {k bytes B o m : Nat} {xs ys : List (List Value)}
    (hg : guardE ops e ⟨some d, .call { callee := .builtin .copy, args := #[x, y], argTypes := #[t, t] }, ty, pos, af, g⟩ = some none)
    (hx : Op1 e none x (subS v k o xs.length)) (hy : Op1 e none y u) (ht : T.ty t = some (.slice et)) (hi : T.inf et = some (z, k, bytes)) (hk : Nat.blt 0 k = true)
    (hv : Owns w B v et k xs) (hu : Sli w u k ys) (h1 : ∀ y ∈ ys.take m, ∀ c ∈ y, c.oneCell' = true) (ho : o < xs.length) (hm : m = min ys.length (xs.length - o)) (hm0 : 0 < ys.length) (hn : Nat.blt d X.n = true)
    (h : ∀ w', Owns w' B v et k (lay xs o (ys.take m)) → Grew B v w w' → N ((d, none, .int .i64 m) :: e) w') :
    Step X ops ⟨some d, .call { callee := .builtin .copy, args := #[x, y], argTypes := #[t, t] }, ty, pos, af, g⟩ e w N := by
  obtain ⟨i, hi1, hi2, hi3, hi4⟩ := T.iok _ _ _ _ hi
  have hT := T.ok _ _ ht
  have hk' : 0 < k := by simpa [Nat.blt_eq] using hk
  obtain ⟨⟨hl, -⟩, hxk, hxb⟩ := id hv
  obtain ⟨gb, cap, ⟨us⟩, rfl, hB, hgb, hc, hcm, hsz, htk⟩ := hv.shape (by omega)
  rcases hu with ⟨rfl, rfl⟩ | ⟨a, cap2, rfl, hs, hc2, hyl, hcell, hyb⟩
  · simp at hm0
  · have hcs := cellsOf (.inr ⟨a, cap2, rfl, hs, hc2, hyl, hcell, hyb⟩) hk'
    have hus : us.length = cap * k := hsz
    simp only at htk
    have hmk : (ys.take m).flatten.length = m * k := by
      rw [flatten_length _ (fun x hx => hyl x (List.mem_of_mem_take hx)), List.length_take]; congr 1; omega
    have hft : (ys.take m).flatten = ys.flatten.take (m * k) := flatten_take ys m hyl
    have hle : (o + m) * k ≤ cap * k := Nat.mul_le_mul_right _ (by omega)
    rw [Nat.add_mul] at hle
    have h1m : ∀ u ∈ (ys.take m).flatten, u.oneCell' = true := fun u hu => by
      obtain ⟨y, hy, hu'⟩ := List.mem_flatten.1 hu
      exact h1 y hy u hu'
    obtain ⟨w', hrun, hw, hx'⟩ := run_storeCells_t X.P et (ys.take m).flatten gb (o * k) 0 us w hgb (by omega) h1m
    rw [Nat.add_zero, hmk] at hx'
    have hload := run_loadCells_list (P := X.P) w a (ys.take m).flatten (fun j u hj => by
      rw [hft, List.getElem?_take] at hj
      split at hj
      · exact hcs j u hj
      · cases hj)
    have hp : subS (Value.slice (some ⟨gb, 0, none⟩) xs.length cap) k o xs.length = .slice (some ⟨gb, o * k, none⟩) (xs.length - o) (cap - o) := by
      simp only [subS, if_neg (show ¬ cap = o by omega), Option.map_some, Addr.add_lit, Nat.zero_add]
    rw [hp] at hx
    have hmn : Nat.min ys.length (xs.length - o) = m := hm.symm
    refine Step.eff (v := .int .i64 m) (w' := w') rfl (by simpa [Nat.blt_eq] using hn) hg (fun _ hh => by cases hh) (fun t' hf => run_builtin2 (hx.val hf rfl) (hy.val hf rfl) fun cs => ?_) (h w' ?_ ?_)
    · have hr : (Builtin.copy_ #[t, t] ty #[.slice (some ⟨gb, o * k, none⟩) (xs.length - o) (cap - o), .slice (some a) ys.length cap2]).run X.P w = .ok (.int .i64 m) w' := by
        rw [hmk] at hload
        simp only [Builtin.copy_, Sem.run_bind, run_underlying hT, Builtin.lenOf, Builtin.firstCells, Result.andThen_ok, Sem.run_pure, hmn, run_sizeOf hi, hload, hrun, goInt, List.getElem?_toArray, List.getElem?_cons_zero, List.getElem?_cons_succ]
      simp only [builtin, Sem.run_bind, hr, Result.andThen_ok, Sem.run_pure]
    · have hlay : (lay xs o (ys.take m)).length = xs.length := lay_len (by rw [List.length_take]; omega)
      have hlk : ∀ x ∈ lay xs o (ys.take m), x.length = k := by
        intro x hx
        simp only [lay, List.mem_append] at hx
        rcases hx with (hx | hx) | hx
        · exact hxk x (List.mem_of_mem_take hx)
        · exact hyl x (List.mem_of_mem_take hx)
        · exact hxk x (List.mem_of_mem_drop hx)
      refine ⟨⟨?_, .inr ⟨gb, cap, _, by rw [hlay], hB, hx', by rw [hlay]; exact hc, hcm, ?_, ?_⟩⟩, hlk, by rw [hlay]; exact hxb⟩
      · rw [flatten_length _ hlk]
      · simp only [List.size_toArray, List.length_append, List.length_take, List.length_drop, hmk]; omega
      · have hlm : (ys.take m).length = m := by rw [List.length_take]; omega
        have hle2 : (o + m) * k ≤ xs.length * k := Nat.mul_le_mul_right _ (by omega)
        rw [Nat.add_mul] at hle2
        have hle3 : xs.length * k ≤ cap * k := Nat.mul_le_mul_right _ hc
        rw [hlay]
        simp only [lay, List.flatten_append, hlm, flatten_take xs o hxk, flatten_drop xs (o + m) hxk, ← htk, Nat.add_mul]
        rw [List.append_assoc, List.take_append, List.length_take, Nat.min_eq_left (by omega), List.take_of_length_le (by rw [List.length_take]; omega), List.take_append, hmk, List.take_of_length_le (l := (ys.take m).flatten) (by omega), List.take_take, Nat.min_eq_left (by omega), List.append_assoc]
        congr 2
        rw [List.drop_take]
        congr 1; omega
    · exact ⟨fun w0 hb0 => hb0.wr hw hB, by rw [hw.size]; exact Nat.le_refl _, fun q hq hne => hw.block q (fun e => hne (by rw [e]; rfl))⟩

/-- how much a row's memory holds -/
theorem Step.capV (T : Tb X.P) {x : Operand} {at_ et : TypeId} {a : Option Addr} {n cap : Nat}
    (hg : guardE ops e ⟨some d, .call { callee := .builtin .cap, args := #[x], argTypes := #[at_] }, ty, pos, af, g⟩ = some c)
    (hx : Op1 e c x (.slice a n cap)) (ht : T.ty at_ = some (.slice et)) (hn : Nat.blt d X.n = true) (h : N ((d, c, .int .i64 cap) :: e) w) :
    Step X ops ⟨some d, .call { callee := .builtin .cap, args := #[x], argTypes := #[at_] }, ty, pos, af, g⟩ e w N :=
  Step.quiet rfl (by simpa [Nat.blt_eq] using hn) hg (fun _ hh => by cases hh) (fun t hf hc => by
    have hv := hx.val (ds := X.ds) hf hc
    have hr : (Builtin.cap_ #[at_] ty #[.slice a n cap]).run X.P w = .ok (.int .i64 cap) w := by
      simp [Builtin.cap_, run_underlying (T.ok _ _ ht), goInt]
    simp only [execOp, resolve, invoke, builtin, Sem.run_bind, Sem.run_pure, Result.andThen_ok, List.map_toArray, List.map_cons, List.map_nil, hv, hr]) h

/-- a row cut at its front, opened up to what its memory holds -/
theorem Step.sliceCap (T : Tb X.P) {x j : Operand} {st et : TypeId} {z : Value} {k by_ n cap b gb : Nat}
    (hg : guardE ops e ⟨some d, .slice st x none (some j) none, ty, pos, af, g⟩ = some c)
    (hx : Op1 e c x (.slice (some ⟨gb, 0, none⟩) n cap)) {m : Int} (hhi : Op1 e c j (.int .i64 m)) (ht : T.ty st = some (.slice et)) (hz : T.inf et = some (z, k, by_))
    (hb : cv c = true → m = b ∧ b ≤ cap) (hn : Nat.blt d X.n = true)
    (h : N ((d, c, .slice (some ⟨gb, 0, none⟩) b cap) :: e) w) : Step X ops ⟨some d, .slice st x none (some j) none, ty, pos, af, g⟩ e w N :=
  Step.quiet rfl (by simpa [Nat.blt_eq] using hn) hg (fun _ hh => by cases hh) (fun t hf hc => by
    obtain ⟨rfl, hb⟩ := hb hc
    have hT := T.ok _ _ ht
    have hb1 : ∀ code, (Instr.sliceBound (.int .i64 b) cap code).run X.P w = .ok b w := fun code => by
      have := run_sliceBound (P := X.P) w .i64 (b : Int) cap code (by omega) (by omega)
      simpa using this
    have h3 : (Instr.sliceAt st (.slice (some ⟨gb, 0, none⟩) n cap) none (some (.int .i64 b)) none).run X.P w = .ok (.slice (some ⟨gb, 0, none⟩) b cap) w := by
      simp only [Instr.sliceAt, Sem.run_bind, run_underlying hT, Result.andThen_ok, Instr.slice, Instr.sliceBounds, Sem.run_pure]
      simp [hb1, run_sizeOf hz, Addr.add_lit]
    simp only [execOp, hx.val hf hc, hhi.val hf hc, Option.map_some, Option.map_none, Sem.run_bind, h3, Result.andThen_ok, Sem.run_pure]) h

/-- append(s[:i], make(.., n)...) where there is no room -/
theorem Step.appendZ (T : Tb X.P) {x y : Operand} {t tn et : TypeId} {z : Value} {kn : IntKind} {k bytes i n cap gb B : Nat} {xs : List (List Value)}
    (hg : guardE ops e ⟨some d, .call { callee := .builtin .append, args := #[x, y], argTypes := #[t, tn] }, ty, pos, af, g⟩ = some none)
    (hx : Op1 e none x (subS (.slice (some ⟨gb, 0, none⟩) xs.length cap) k 0 i)) (hy : Op1 e none y (.int .i64 n)) (ht : T.ty t = some (.slice et)) (htn : T.ty tn = some (.int kn)) (hi : T.inf et = some (z, k, bytes)) (hk : Nat.blt 0 k = true) (hz : z.cells.size = k)
    (hv : Owns w B (.slice (some ⟨gb, 0, none⟩) xs.length cap) et k xs) (hin : i ≤ xs.length) (h0 : 0 < n) (hroom : cap < i + n) (hb : (i + n) * bytes ≤ 140737488355328) (hl : i + n ≤ 140737488355328) (hn : Nat.blt d X.n = true)
    (h : ∀ v' w' zs, zs.length = n → Owns w' w.heap.size v' et k (xs.take i ++ zs) → Ext w w' → N ((d, none, v') :: e) w') :
    Step X ops ⟨some d, .call { callee := .builtin .append, args := #[x, y], argTypes := #[t, tn] }, ty, pos, af, g⟩ e w N := by
  obtain ⟨ii, hi1, hi2, hi3, hi4⟩ := T.iok _ _ _ _ hi
  have hT := T.ok _ _ ht
  have hTn := T.ok _ _ htn
  have hk' : 0 < k := by simpa [Nat.blt_eq] using hk
  have hs := hv.sli
  have hxk := hv.2.1
  have hnc : xs.length ≤ cap := by
    obtain ⟨a, c', he, h'⟩ := hs.len
    cases he; exact h'
  have hp : subS (Value.slice (some ⟨gb, 0, none⟩) xs.length cap) k 0 i = .slice (some ⟨gb, 0, none⟩) i cap := by
    simp only [subS, Nat.zero_mul, Nat.sub_zero]
    split <;> simp [Addr.add_lit]
  rw [hp] at hx
  have hfl : (xs.take i).flatten.length = i * k := by
    rw [flatten_length _ (fun x hx => hxk x (List.mem_of_mem_take hx)), List.length_take]; congr 1; omega
  have hcs := cellsOf hs hk'
  have hold : (Builtin.firstCells ii.size i (.slice (some ⟨gb, 0, none⟩) i cap)).run X.P w.drew = .ok (xs.take i).flatten.toArray w.drew := by
    refine run_firstCells_some w.drew ii.size i ⟨gb, 0, none⟩ i cap _ (by rw [hi3]; exact hfl) (fun j u hj => ?_)
    rw [flatten_take xs i hxk, List.getElem?_take] at hj
    split at hj
    · exact hcs j u hj
    · cases hj
  have hr := Lib.run_append_grow_zeros w t tn ty et ii z .i64 kn hT hTn hi1 hi2 (some ⟨gb, 0, none⟩) i cap (xs.take i).flatten hold n h0 (by omega) hroom (by omega)
    (by rw [hi4]; have : n * bytes ≤ (i + n) * bytes := Nat.mul_le_mul_right _ (by omega)
        omega) (by rw [hi4]; exact growslice_fits hroom hb)
  obtain ⟨G, hG⟩ : ∃ G, G = grownCap w (i + n) cap et := ⟨_, rfl⟩
  have hGe := grownCap_ge w (i + n) cap et
  have hGm := grownCap_le_maxLen w (i + n) cap et (by unfold maxLen; omega)
  rw [← hG] at hr hGe hGm
  have hzs : z.cells.size = k := hz
  have hzc : ∀ n, (Builtin.zeroCells z.cells n).size = n * k := fun n => by simp [Builtin.zeroCells, hzs]
  obtain ⟨Z, hZ⟩ : ∃ Z : List Value, Z = (Builtin.zeroCells z.cells n).toList := ⟨_, rfl⟩
  have hZl : Z.length = n * k := by rw [hZ, Array.length_toList]; exact hzc n
  -- the zero elements, one by one
  have hsplit : ∀ (m : Nat) (L : List Value), L.length = m * k → ∃ zs : List (List Value), zs.length = m ∧ (∀ x ∈ zs, x.length = k) ∧ zs.flatten = L := by
    intro m
    induction m with
    | zero => intro L hL; exact ⟨[], rfl, by simp, by simp at hL; simp [hL]⟩
    | succ m ih =>
      intro L hL
      rw [Nat.add_mul, Nat.one_mul] at hL
      obtain ⟨zs, h1, h2, h3⟩ := ih (L.drop k) (by rw [List.length_drop]; omega)
      refine ⟨L.take k :: zs, by simp [h1], ?_, by rw [List.flatten_cons, h3, List.take_append_drop]⟩
      intro x hx
      rcases List.mem_cons.1 hx with rfl | hx
      · rw [List.length_take]; omega
      · exact h2 x hx
  obtain ⟨zs, hzl, hzk, hzf⟩ := hsplit n Z hZl
  have hxl : (xs.take i).length = i := by rw [List.length_take]; omega
  have hlen : (xs.take i ++ zs).length = i + n := by rw [List.length_append, hxl, hzl]
  obtain ⟨W, hW⟩ : ∃ W, W = w.drew.alloc (.cells ((xs.take i).flatten.toArray ++ Builtin.zeroCells z.cells n ++ Builtin.zeroCells z.cells (G - (i + n))) et) := ⟨_, rfl⟩
  rw [← hW] at hr
  refine Step.eff (v := .slice (some ⟨w.heap.size, 0, none⟩) (i + n) G) (w' := W) rfl (by simpa [Nat.blt_eq] using hn) hg (fun _ hh => by cases hh) (fun t' hf => run_builtin2 (hx.val hf rfl) (hy.val hf rfl) fun cs => ?_) (h _ W zs hzl ?_ ?_)
  · simp only [builtin, Sem.run_bind, hr, Result.andThen_ok, Sem.run_pure]
  · subst hW
    refine ⟨⟨?_, .inr ⟨w.heap.size, G, _, by rw [hlen], Nat.le_refl _, heap_alloc_new w.drew _, by rw [hlen]; exact hGe, hGm, ?_, ?_⟩⟩, ?_, by rw [hlen]; exact hl⟩
    · rw [List.flatten_append, List.length_append, hfl, hzf, hZl, hlen, Nat.add_mul]
    · simp only [Array.size_append, List.size_toArray, hfl, hzc, ← Nat.add_mul]
      congr 1; omega
    · rw [hlen, List.flatten_append, hzf, hZ]
      simp only [Array.toList_append, List.append_assoc]
      rw [← List.append_assoc]
      refine List.take_left' ?_
      rw [List.length_append, ← hZ, hZl, hfl, Nat.add_mul]
    · intro x hx
      rcases List.mem_append.1 hx with hx | hx
      · exact hxk x (List.mem_of_mem_take hx)
      · exact hzk x hx
  · subst hW; exact (Ext.drew w).trans (Ext.alloc _ _)

/-- a call of a function without a body, whose answer is known -/
theorem Step.callV {f : FuncId} {args : Array Operand} {ats : Array TypeId} {l : List Operand} {vs : List Value} {r : Value}
    (hg : guardE ops e ⟨some d, .call { callee := .value (.func f), args := args, argTypes := ats }, ty, pos, af, g⟩ = some none)
    (ha : args = ⟨l⟩) (hvs : evs e l = some vs) (hn : Nat.blt d X.n = true) (hr : (callFunc f ⟨vs⟩).run X.P w = .ok (.value r) w)
    (h : N ((d, none, r) :: e) w) : Step X ops ⟨some d, .call { callee := .value (.func f), args := args, argTypes := ats }, ty, pos, af, g⟩ e w N :=
  Step.eff rfl (by simpa [Nat.blt_eq] using hn) hg (fun _ hh => by cases hh) (fun t hft => by
    have := evs_map (ds := X.ds) hft hvs
    subst ha
    have h2 : (Array.mk l).map (Act.mk t X.ds).eval = ⟨vs⟩ := by simp [this]
    simp only [execOp, resolve, h2, Act.eval, Deferred.ofValue, Sem.run_bind, Sem.run_pure, Result.andThen_ok, invoke, Array.empty_append, Array.append_empty, hr]) h
/-- likewise, of a function held as a value -/
theorem Step.callXC {f : FuncId} {x : Operand} {cap : List Value} {args : Array Operand} {ats : Array TypeId} {l : List Operand} {vs : List Value} {v : Value}
    (hg : guardE ops e ⟨some d, .call { callee := .value x, args := args, argTypes := ats }, ty, pos, af, g⟩ = some c)
    (hx : Op1 e c x (.func (.func f) #[] ⟨cap⟩)) (ha : args = ⟨l⟩) (hvs : OpL e c l vs) (hf : Callable X.P f) (hn : Nat.blt d X.n = true) (hc : cv c = true → Ret X.P f ⟨vs ++ cap⟩ w fun r w' => r = v ∧ Ext w w')
    (h : ∀ w', Ext w w' → N ((d, c, v) :: e) w') : Step X ops ⟨some d, .call { callee := .value x, args := args, argTypes := ats }, ty, pos, af, g⟩ e w N := by
  intro t K Q hft hK
  rw [guardE_wanted hft hg]
  cases hcv : cv c with
  | false =>
    rw [if_neg (by simp)]
    have := hK _ _ _ (h w (Ext.refl w)) (hft.put (by simpa [Nat.blt_eq] using hn) c v)
    simp only [gval, hcv] at this
    exact this
  | true =>
    rw [if_pos rfl]
    refine ⟨fun _ _ => trivial, ?_⟩
    rw [Oper.semAt_eq _ _ _ (fun _ hh => by cases hh)]
    have h1 := hvs.map (ds := X.ds) hft hcv
    subst ha
    have h2 : (Array.mk l).map (Act.mk t X.ds).eval = ⟨vs⟩ := by simp [h1]
    have h3 : (Act.mk t X.ds).eval x = .func (.func f) #[] ⟨cap⟩ := hx.val hft hcv
    have h4 : (⟨vs⟩ : Array Value) ++ ⟨cap⟩ = ⟨vs ++ cap⟩ := by simp
    have hr : (execOp (Act.mk t X.ds).eval ⟨some d, .call { callee := .value x, args := ⟨l⟩, argTypes := ats }, ty, pos, af, g⟩).run X.P w = .ok (.enter f ⟨vs ++ cap⟩) w := by
      simp only [execOp, resolve, h2, h3, Deferred.ofValue, Sem.run_bind, Sem.run_pure, Result.andThen_ok, invoke, Array.empty_append, h4, run_callFunc hf]
    show Oper.uponIn _ _ _ _ _ _ _ ((execOp (Act.mk t X.ds).eval _).run X.P w)
    rw [hr]
    refine ⟨fun h => by simp [Fence.wide] at h, callsW (Calls.mono (hc hcv) ?_)⟩
    rintro en w' ⟨r, rfl, rfl, hx⟩
    show K (Act.put _ (some d) r) w'
    have := hK _ _ _ (h w' hx) (hft.put (by simpa [Nat.blt_eq] using hn) c r)
    simp only [gval, hcv] at this
    exact this
end

/-- two rows in two blocks do not overlap -/
theorem overlaps_no {P : Program} (T : Tb P) {w : World} {tS tR et : TypeId} {z : Value} {k bytes B B' : Nat} {u v : Value} {xs ys : List (List Value)} (ht : T.ty tS = some (.slice et)) (hi : T.inf et = some (z, k, bytes)) (hk : 0 < k)
    (hu : Owns w B u et k ys) (hv : Owns w B' v et k xs) (hy : 0 < ys.length) (hne : ∀ b, some b = u.ownBlock → some b ≠ v.ownBlock) {o : Nat} (ho : o < xs.length) :
    (Extern.SlicesOverlaps.overlaps #[tS, tS] #[tR] #[u, subS v k o xs.length]).run P w = .ok (.bool false) w := by
  obtain ⟨g1, cap1, cur1, rfl, _, hg1, hc1, _, hs1, _⟩ := hu.shape hy
  obtain ⟨g2, cap2, cur2, rfl, _, hg2, hc2, _, hs2, _⟩ := hv.shape (by omega)
  have hgg : g1 ≠ g2 := fun h => hne g1 rfl (by rw [h]; rfl)
  have hp : subS (Value.slice (some ⟨g2, 0, none⟩) xs.length cap2) k o xs.length = .slice (some ⟨g2, o * k, none⟩) (xs.length - o) (cap2 - o) := by
    simp only [subS, if_neg (show ¬ cap2 = o by omega), Option.map_some, Addr.add_lit, Nat.zero_add]
  rw [hp]
  have h2 : 0 < cap2 * k := Nat.mul_pos (by omega) hk
  refine Lib.run_overlaps_apart w tS tR et (T.ok _ _ ht) k (fun w => run_sizeOf hi w) ⟨g1, 0, none⟩ ⟨g2, o * k, none⟩ _ _ _ _ hgg et et cur1.size cur2.size ?_ ?_ (by omega) ?_ ?_
  · simp [World.shape?, hg1]
  · simp [World.shape?, hg2]
  · exact frozen_of_row w g1 0 cur1 et hg1
  · exact frozen_of_row w g1 _ cur1 et hg1
section
variable {X : Cx} {ops : Array Oper} {e : Env} {w : World} {S : World → Prop} {N : Env → World → Prop} {lb : List (Oper × Bool)} {d : Nat} {c : Option Bool} {ty : TypeId} {pos : String} {af : Array Edge} {g : Option (Nat × Bool)}
theorem dAr {op : BinOp} {xt yt : TypeId} {x y : Operand} {q : IntKind} {a b r : Int} (h : GMN X ops S N lb ((d, c, .int q r) :: e) w)
    (hg : guardE ops e ⟨some d, .binOp op xt x y yt, ty, pos, af, g⟩ = some c := by exact rfl) (hx : Op1 e c x (.int q a) := by exact Op1.of rfl (by first | exact fun _ => rfl | exact fun h => h)) (hy : Op1 e c y (.int q b) := by exact Op1.of rfl (by first | exact fun _ => rfl | exact fun h => h))
    (hp : match op with | .add => q.wrap (a + b) = r | .sub => q.wrap (a - b) = r | .mul => q.wrap (a * b) = r | _ => False := by exact rfl) (hn : Nat.blt d X.n = true := by exact rfl) :
    GMN X ops S N ((⟨some d, .binOp op xt x y yt, ty, pos, af, g⟩, true) :: lb) e w := GM.read (fun w' hS => Step.arith hg hx hy hp hn ⟨rfl, rfl⟩) rfl hn h
theorem dCb (T : Tb X.P) {x : Operand} {src dst : TypeId} {q : IntKind} {m : Int} {sd : TypeDesc} (h : GMN X ops S N lb ((d, c, U (byI m)) :: e) w)
    (hg : guardE ops e ⟨some d, .convert src dst x, ty, pos, af, g⟩ = some c := by exact rfl) (hx : Op1 e c x (.int q m) := by exact Op1.of rfl (by first | exact fun _ => rfl | exact fun h => h)) (hs : T.ty src = some sd := by exact rfl) (ht : T.ty dst = some (.int .u8) := by exact rfl) (hn : Nat.blt d X.n = true := by exact rfl) :
    GMN X ops S N ((⟨some d, .convert src dst x, ty, pos, af, g⟩, true) :: lb) e w := GM.read (fun w' hS => Step.convB T hg hx hs ht hn ⟨rfl, rfl⟩) rfl hn h
end
/-- two results in boxes -/
theorem resC2 {P : Program} {fn : Func} {n : Nat} {e : Env} {t : Array Value} (hf : Fits n e t) {s ty s' ty' : Nat} {p u p' u' : Value} {d d' : TypeDesc} (hr : fn.results = #[.cell s ty, .cell s' ty']) (hv : look e s = some (none, p)) (hv' : look e s' = some (none, p'))
    (ht : P.underlying ty = some d) (ha : aggT d = false) (ht' : P.underlying ty' = some d') (ha' : aggT d' = false) {w : World} (hc : CellAt w p u) (hc' : CellAt w p' u') : (results fn t).run P w = .ok (.tuple ⟨[u, u']⟩) w := by
  obtain ⟨a, rfl, hc⟩ := hc
  obtain ⟨a', rfl, hc'⟩ := hc'
  have h1 : t.getD s undef = .pointer (some a) := (hf.get _ _ _ hv).2
  have h1' : t.getD s' undef = .pointer (some a') := (hf.get _ _ _ hv').2
  have h2 : (loadVar ty a).run P w = .ok u w := by
    simp [loadVar, Sem.run_bind, run_isAgg ht, ha, hc]
  have h2' : (loadVar ty' a').run P w = .ok u' w := by
    simp [loadVar, Sem.run_bind, run_isAgg ht', ha', hc']
  simp only [results, hr, List.mapM_toArray, List.mapM_cons, List.mapM_nil, h1, h1', asAddr, Sem.run_bind, Sem.run_map, Sem.run_pure, Result.andThen_ok, h2, h2']
  rfl
end Go.Vg
