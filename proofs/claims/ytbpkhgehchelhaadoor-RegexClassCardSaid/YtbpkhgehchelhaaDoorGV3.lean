/- Rows shifted: their capacity, copies within them, room made behind them, a call of a function without a body. -/
import Derived.Test.YtbpkhgehchelhaaDoorGV2
import Derived.Lib.Overlaps
import Derived.Lib.AppendZerosOnto
import Derived.Lib.SlBytesConst
import Derived.MapKept
import Derived.Scope
import Derived.OwnWalk
import Derived.Lib.SmallJoins
import Derived.WalkLawsBesides
import Derived.Recover
import Derived.Lib.OthersKept
import Derived.Laws.RangeString
import Derived.Laws.Runes
import Derived.Defers
import Derived.ControlIn
import Derived.Tactics
import Derived.Tactics2
import Derived.Deep.OwnRows
namespace Go.Vg
open Go.RowKit

theorem Owns.shape {w : World} {B : Nat} {v : Value} {et k : Nat} {xs : List (List Value)} (h : Owns w B v et k xs) (h0 : 0 < xs.length) :
    ∃ g cap cur, v = .slice (some ⟨g, 0, none⟩) xs.length cap ∧ B ≤ g ∧ w.heap[g]? = some (.cells cur et (0, 0)) ∧ xs.length ≤ cap ∧ cap ≤ maxLen ∧ cur.size = cap * k ∧ cur.toList.take (xs.length * k) = xs.flatten := by
  rcases h.1.2 with ⟨_, hn⟩ | h
  · omega
  · exact h
/-- one element more of the room behind a row -/
theorem Owns.up {w : World} {B g cap : Nat} {et k : Nat} {xs : List (List Value)} (h : Owns w B (.slice (some ⟨g, 0, none⟩) xs.length cap) et k xs) (hc : xs.length < cap) (hb : xs.length + 1 ≤ 140737488355328) :
    ∃ y, Owns w B (.slice (some ⟨g, 0, none⟩) (xs.length + 1) cap) et k (xs ++ [y]) := by
  obtain ⟨⟨hl, hr⟩, hk, _⟩ := h
  rcases hr with ⟨hv, _⟩ | ⟨g', cap', cur, hv, hB, hg, hc', hm, hs, ht⟩
  · cases hv
  · cases hv
    have hle : (xs.length + 1) * k ≤ cap * k := Nat.mul_le_mul_right _ hc
    rw [Nat.add_mul, Nat.one_mul] at hle
    have hsz : cur.toList.length = cap * k := by rw [Array.length_toList]; exact hs
    have hy : ((cur.toList.drop (xs.length * k)).take k).length = k := by rw [List.length_take, List.length_drop]; omega
    refine ⟨(cur.toList.drop (xs.length * k)).take k, ⟨?_, .inr ⟨g, cap, cur, by simp, hB, hg, by simp; omega, hm, hs, ?_⟩⟩, ?_, by simp; omega⟩
    · simp only [List.flatten_append, List.length_append, hl, List.flatten_cons, List.flatten_nil, List.append_nil, hy, List.length_cons, List.length_nil, Nat.add_mul, Nat.zero_add, Nat.one_mul]
    · simp only [List.flatten_append, List.length_append, List.flatten_cons, List.flatten_nil, List.append_nil, List.length_cons, List.length_nil, Nat.add_mul, Nat.zero_add, Nat.one_mul]
      rw [← ht, List.take_add]
    · intro x hx
      rcases List.mem_append.1 hx with hx | hx
      · exact hk x hx
      · simp only [List.mem_cons, List.not_mem_nil, or_false] at hx
        subst hx; exact hy

/-- a row with others laid over it from one place on -/
def lay {α : Type} (xs : List α) (o : Nat) (ys : List α) : List α := xs.take o ++ ys ++ xs.drop (o + ys.length)
theorem lay_len {α : Type} {xs ys : List α} {o : Nat} (h : o + ys.length ≤ xs.length) : (lay xs o ys).length = xs.length := by simp [lay]; omega

theorem cellsOf {w : World} {a : Addr} {k : Nat} {ys : List (List Value)} {n cap : Nat} (hs : Sli w (.slice (some a) n cap) k ys) (hk : 0 < k) : ∀ j u, ys.flatten[j]? = some u → w.cell? (a.add j) = some u := by
  rcases hs with ⟨h, _⟩ | ⟨a', cap', hv, hsp, hc, hyl, hcell, hyb⟩
  · cases h
  · cases hv
    intro j u hj
    have hj' : j < ys.length * k := by rw [← flatten_length ys hyl]; exact (List.getElem?_eq_some_iff.1 hj).1
    have hq : j / k < ys.length := Nat.div_lt_of_lt_mul (by rw [Nat.mul_comm]; exact hj')
    have hyq : ys[j / k]? = some ys[j / k] := List.getElem?_eq_getElem hq
    have hlen : (ys[j / k]).length = k := hyl _ (List.getElem_mem hq)
    have hr' : j % k < (ys[j / k]).length := by rw [hlen]; exact Nat.mod_lt _ hk
    have hu2 := List.getElem?_eq_getElem hr'
    have e1 : j / k * k + j % k = j := by rw [Nat.mul_comm]; exact Nat.div_add_mod j k
    have h5 := flatten_get ys hyl _ _ hyq _ _ hu2
    rw [e1, hj] at h5
    cases h5
    have := hcell _ _ hyq _ _ hu2
    rwa [e1] at this

section
variable {X : Cx} {ops : Array Oper} {l : List Oper} {kk : List Kt} {e : Env} {w : World} {N : Env → World → Prop} {d : Nat} {c : Option Bool} {ty : TypeId} {pos : String} {af : Array Edge} {g : Option (Nat × Bool)}

/-- copy, into a row of one's own -/
theorem Step.copyO (T : Tb X.P) {x y : Operand} {t et : TypeId} {v u z : Value} {k bytes B o m : Nat} {xs ys : List (List Value)}
    (hg : guardE ops e ⟨some d, .call { callee := .builtin .copy, args := #[x, y], argTypes := #[t, t] }, ty, pos, af, g⟩ = some none)
    (hx : Op1 e none x (subS v k o xs.length)) (hy : Op1 e none y u) (ht : T.ty t = some (.slice et)) (hi : T.inf et = some (z, k, bytes)) (hk : Nat.blt 0 k = true)
    (hv : Owns w B v et k xs) (hu : Sli w u k ys) (h1 : ∀ y ∈ ys.take m, ∀ c ∈ y, c.oneCell' = true) (ho : o < xs.length) (hm : m = min ys.length (xs.length - o)) (hm0 : 0 < ys.length) (hn : Nat.blt d X.n = true)
    (h : ∀ w', Owns w' B v et k (lay xs o (ys.take m)) → Grew B v w w' → N ((d, none, .int .i64 m) :: e) w') :
    Step X ops ⟨some d, .call { callee := .builtin .copy, args := #[x, y], argTypes := #[t, t] }, ty, pos, af, g⟩ e w N := by
  obtain ⟨i, hi1, hi2, hi3, hi4⟩ := T.iok _ _ _ _ hi
  have hT := T.ok _ _ ht
  have hk' : 0 < k := by simpa [Nat.blt_eq] using hk
  obtain ⟨⟨hl, -⟩, hxk, hxb⟩ := id hv
  obtain ⟨gb, cap, ⟨us⟩, rfl, hB, hgb, hc, hcm, hsz, htk⟩ := hv.shape (by omega)
  rcases hu with ⟨rfl, rfl⟩ | ⟨a, cap2, rfl, hs, hc2, hyl, hcell, hyb⟩
  · simp at hm0
  · have hcs := cellsOf (.inr ⟨a, cap2, rfl, hs, hc2, hyl, hcell, hyb⟩) hk'
    have hus : us.length = cap * k := hsz
    simp only at htk
    have hmk : (ys.take m).flatten.length = m * k := by
      rw [flatten_length _ (fun x hx => hyl x (List.mem_of_mem_take hx)), List.length_take]; congr 1; omega
    have hft : (ys.take m).flatten = ys.flatten.take (m * k) := flatten_take ys m hyl
    have hle : (o + m) * k ≤ cap * k := Nat.mul_le_mul_right _ (by omega)
    rw [Nat.add_mul] at hle
    have h1m : ∀ u ∈ (ys.take m).flatten, u.oneCell' = true := fun u hu => by
      obtain ⟨y, hy, hu'⟩ := List.mem_flatten.1 hu
      exact h1 y hy u hu'
    obtain ⟨w', hrun, hw, hx'⟩ := run_storeCells_t X.P et (ys.take m).flatten gb (o * k) 0 us w hgb (by omega) h1m
    rw [Nat.add_zero, hmk] at hx'
    have hload := run_loadCells_list (P := X.P) w a (ys.take m).flatten (fun j u hj => by
      rw [hft, List.getElem?_take] at hj
      split at hj
      · exact hcs j u hj
      · cases hj)
    have hp : subS (Value.slice (some ⟨gb, 0, none⟩) xs.length cap) k o xs.length = .slice (some ⟨gb, o * k, none⟩) (xs.length - o) (cap - o) := by
      simp only [subS, if_neg (show ¬ cap = o by omega), Option.map_some, Addr.add_lit, Nat.zero_add]
    rw [hp] at hx
    have hmn : Nat.min ys.length (xs.length - o) = m := hm.symm
    refine Step.eff (v := .int .i64 m) (w' := w') rfl (by simpa [Nat.blt_eq] using hn) hg (fun _ hh => by cases hh) (fun t' hf => run_builtin2 (hx.val hf rfl) (hy.val hf rfl) fun cs => ?_) (h w' ?_ ?_)
    · have hr : (Builtin.copy_ #[t, t] ty #[.slice (some ⟨gb, o * k, none⟩) (xs.length - o) (cap - o), .slice (some a) ys.length cap2]).run X.P w = .ok (.int .i64 m) w' := by
        rw [hmk] at hload
        simp only [Builtin.copy_, Sem.run_bind, run_underlying hT, Builtin.lenOf, Builtin.firstCells, Result.andThen_ok, Sem.run_pure, hmn, run_sizeOf hi, hload, hrun, goInt, List.getElem?_toArray, List.getElem?_cons_zero, List.getElem?_cons_succ]
      simp only [builtin, Sem.run_bind, hr, Result.andThen_ok, Sem.run_pure]
    · have hlay : (lay xs o (ys.take m)).length = xs.length := lay_len (by rw [List.length_take]; omega)
      have hlk : ∀ x ∈ lay xs o (ys.take m), x.length = k := by
        intro x hx
        simp only [lay, List.mem_append] at hx
        rcases hx with (hx | hx) | hx
        · exact hxk x (List.mem_of_mem_take hx)
        · exact hyl x (List.mem_of_mem_take hx)
        · exact hxk x (List.mem_of_mem_drop hx)
      refine ⟨⟨?_, .inr ⟨gb, cap, _, by rw [hlay], hB, hx', by rw [hlay]; exact hc, hcm, ?_, ?_⟩⟩, hlk, by rw [hlay]; exact hxb⟩
      · rw [flatten_length _ hlk]
      · simp only [List.size_toArray, List.length_append, List.length_take, List.length_drop, hmk]; omega
      · have hlm : (ys.take m).length = m := by rw [List.length_take]; omega
        have hle2 : (o + m) * k ≤ xs.length * k := Nat.mul_le_mul_right _ (by omega)
        rw [Nat.add_mul] at hle2
        have hle3 : xs.length * k ≤ cap * k := Nat.mul_le_mul_right _ hc
        rw [hlay]
        simp only [lay, List.flatten_append, hlm, flatten_take xs o hxk, flatten_drop xs (o + m) hxk, ← htk, Nat.add_mul]
        rw [List.append_assoc, List.take_append, List.length_take, Nat.min_eq_left (by omega), List.take_of_length_le (by rw [List.length_take]; omega), List.take_append, hmk, List.take_of_length_le (l := (ys.take m).flatten) (by omega), List.take_take, Nat.min_eq_left (by omega), List.append_assoc]
        congr 2
        rw [List.drop_take]
        congr 1; omega
    · exact ⟨fun w0 hb0 => hb0.wr hw hB, by rw [hw.size]; exact Nat.le_refl _, fun q hq hne => hw.block q (fun e => hne (by rw [e]; rfl))⟩

/-- how much a row's memory holds -/
theorem Step.capV (T : Tb X.P) {x : Operand} {at_ et : TypeId} {a : Option Addr} {n cap : Nat}
    (hg : guardE ops e ⟨some d, .call { callee := .builtin .cap, args := #[x], argTypes := #[at_] }, ty, pos, af, g⟩ = some c)
    (hx : Op1 e c x (.slice a n cap)) (ht : T.ty at_ = some (.slice et)) (hn : Nat.blt d X.n = true) (h : N ((d, c, .int .i64 cap) :: e) w) :
    Step X ops ⟨some d, .call { callee := .builtin .cap, args := #[x], argTypes := #[at_] }, ty, pos, af, g⟩ e w N :=
  Step.quiet rfl (by simpa [Nat.blt_eq] using hn) hg (fun _ hh => by cases hh) (fun t hf hc => by
    have hv := hx.val (ds := X.ds) hf hc
    have hr : (Builtin.cap_ #[at_] ty #[.slice a n cap]).run X.P w = .ok (.int .i64 cap) w := by
      simp [Builtin.cap_, run_underlying (T.ok _ _ ht), goInt]
    simp only [execOp, resolve, invoke, builtin, Sem.run_bind, Sem.run_pure, Result.andThen_ok, List.map_toArray, List.map_cons, List.map_nil, hv, hr]) h

/-- a row cut at its front, opened up to what its memory holds -/
theorem Step.sliceCap (T : Tb X.P) {x j : Operand} {st et : TypeId} {z : Value} {k by_ n cap b gb : Nat}
    (hg : guardE ops e ⟨some d, .slice st x none (some j) none, ty, pos, af, g⟩ = some c)
    (hx : Op1 e c x (.slice (some ⟨gb, 0, none⟩) n cap)) {m : Int} (hhi : Op1 e c j (.int .i64 m)) (ht : T.ty st = some (.slice et)) (hz : T.inf et = some (z, k, by_))
    (hb : cv c = true → m = b ∧ b ≤ cap) (hn : Nat.blt d X.n = true)
    (h : N ((d, c, .slice (some ⟨gb, 0, none⟩) b cap) :: e) w) : Step X ops ⟨some d, .slice st x none (some j) none, ty, pos, af, g⟩ e w N :=
  Step.quiet rfl (by simpa [Nat.blt_eq] using hn) hg (fun _ hh => by cases hh) (fun t hf hc => by
    obtain ⟨rfl, hb⟩ := hb hc
    have hT := T.ok _ _ ht
    have hb1 : ∀ code, (Instr.sliceBound (.int .i64 b) cap code).run X.P w = .ok b w := fun code => by
      have := run_sliceBound (P := X.P) w .i64 (b : Int) cap code (by omega) (by omega)
      simpa using this
    have h3 : (Instr.sliceAt st (.slice (some ⟨gb, 0, none⟩) n cap) none (some (.int .i64 b)) none).run X.P w = .ok (.slice (some ⟨gb, 0, none⟩) b cap) w := by
      simp only [Instr.sliceAt, Sem.run_bind, run_underlying hT, Result.andThen_ok, Instr.slice, Instr.sliceBounds, Sem.run_pure]
      simp [hb1, run_sizeOf hz, Addr.add_lit]
    simp only [execOp, hx.val hf hc, hhi.val hf hc, Option.map_some, Option.map_none, Sem.run_bind, h3, Result.andThen_ok, Sem.run_pure]) h

/-- append(s[:i], make(.., n)...) where there is no room -/
theorem Step.appendZ (T : Tb X.P) {x y : Operand} {t tn et : TypeId} {z : Value} {kn : IntKind} {k bytes i n cap gb B : Nat} {xs : List (List Value)}
    (hg : guardE ops e ⟨some d, .call { callee := .builtin .append, args := #[x, y], argTypes := #[t, tn] }, ty, pos, af, g⟩ = some none)
    (hx : Op1 e none x (subS (.slice (some ⟨gb, 0, none⟩) xs.length cap) k 0 i)) (hy : Op1 e none y (.int .i64 n)) (ht : T.ty t = some (.slice et)) (htn : T.ty tn = some (.int kn)) (hi : T.inf et = some (z, k, bytes)) (hk : Nat.blt 0 k = true) (hz : z.cells.size = k)
    (hv : Owns w B (.slice (some ⟨gb, 0, none⟩) xs.length cap) et k xs) (hin : i ≤ xs.length) (h0 : 0 < n) (hroom : cap < i + n) (hb : (i + n) * bytes ≤ 140737488355328) (hl : i + n ≤ 140737488355328) (hn : Nat.blt d X.n = true)
    (h : ∀ v' w' zs, zs.length = n → Owns w' w.heap.size v' et k (xs.take i ++ zs) → Ext w w' → N ((d, none, v') :: e) w') :
    Step X ops ⟨some d, .call { callee := .builtin .append, args := #[x, y], argTypes := #[t, tn] }, ty, pos, af, g⟩ e w N := by
  obtain ⟨ii, hi1, hi2, hi3, hi4⟩ := T.iok _ _ _ _ hi
  have hT := T.ok _ _ ht
  have hTn := T.ok _ _ htn
  have hk' : 0 < k := by simpa [Nat.blt_eq] using hk
  have hs := hv.sli
  have hxk := hv.2.1
  have hnc : xs.length ≤ cap := by
    obtain ⟨a, c', he, h'⟩ := hs.len
    cases he; exact h'
  have hp : subS (Value.slice (some ⟨gb, 0, none⟩) xs.length cap) k 0 i = .slice (some ⟨gb, 0, none⟩) i cap := by
    simp only [subS, Nat.zero_mul, Nat.sub_zero]
    split <;> simp [Addr.add_lit]
  rw [hp] at hx
  have hfl : (xs.take i).flatten.length = i * k := by
    rw [flatten_length _ (fun x hx => hxk x (List.mem_of_mem_take hx)), List.length_take]; congr 1; omega
  have hcs := cellsOf hs hk'
  have hold : (Builtin.firstCells ii.size i (.slice (some ⟨gb, 0, none⟩) i cap)).run X.P w.drew = .ok (xs.take i).flatten.toArray w.drew := by
    refine run_firstCells_some w.drew ii.size i ⟨gb, 0, none⟩ i cap _ (by rw [hi3]; exact hfl) (fun j u hj => ?_)
    rw [flatten_take xs i hxk, List.getElem?_take] at hj
    split at hj
    · exact hcs j u hj
    · cases hj
  have hr := Lib.run_append_grow_zeros w t tn ty et ii z .i64 kn hT hTn hi1 hi2 (some ⟨gb, 0, none⟩) i cap (xs.take i).flatten hold n h0 (by omega) hroom (by omega)
    (by rw [hi4]; have : n * bytes ≤ (i + n) * bytes := Nat.mul_le_mul_right _ (by omega)
        omega) (by rw [hi4]; exact growslice_fits hroom hb)
  obtain ⟨G, hG⟩ : ∃ G, G = grownCap w (i + n) cap et := ⟨_, rfl⟩
  have hGe := grownCap_ge w (i + n) cap et
  have hGm := grownCap_le_maxLen w (i + n) cap et (by unfold maxLen; omega)
  rw [← hG] at hr hGe hGm
  have hzs : z.cells.size = k := hz
  have hzc : ∀ n, (Builtin.zeroCells z.cells n).size = n * k := fun n => by simp [Builtin.zeroCells, hzs]
  obtain ⟨Z, hZ⟩ : ∃ Z : List Value, Z = (Builtin.zeroCells z.cells n).toList := ⟨_, rfl⟩
  have hZl : Z.length = n * k := by rw [hZ, Array.length_toList]; exact hzc n
  -- the zero elements, one by one
  have hsplit : ∀ (m : Nat) (L : List Value), L.length = m * k → ∃ zs : List (List Value), zs.length = m ∧ (∀ x ∈ zs, x.length = k) ∧ zs.flatten = L := by
    intro m
    induction m with
    | zero => intro L hL; exact ⟨[], rfl, by simp, by simp at hL; simp [hL]⟩
    | succ m ih =>
      intro L hL
      rw [Nat.add_mul, Nat.one_mul] at hL
      obtain ⟨zs, h1, h2, h3⟩ := ih (L.drop k) (by rw [List.length_drop]; omega)
      refine ⟨L.take k :: zs, by simp [h1], ?_, by rw [List.flatten_cons, h3, List.take_append_drop]⟩
      intro x hx
      rcases List.mem_cons.1 hx with rfl | hx
      · rw [List.length_take]; omega
      · exact h2 x hx
  obtain ⟨zs, hzl, hzk, hzf⟩ := hsplit n Z hZl
  have hxl : (xs.take i).length = i := by rw [List.length_take]; omega
  have hlen : (xs.take i ++ zs).length = i + n := by rw [List.length_append, hxl, hzl]
  obtain ⟨W, hW⟩ : ∃ W, W = w.drew.alloc (.cells ((xs.take i).flatten.toArray ++ Builtin.zeroCells z.cells n ++ Builtin.zeroCells z.cells (G - (i + n))) et) := ⟨_, rfl⟩
  rw [← hW] at hr
  refine Step.eff (v := .slice (some ⟨w.heap.size, 0, none⟩) (i + n) G) (w' := W) rfl (by simpa [Nat.blt_eq] using hn) hg (fun _ hh => by cases hh) (fun t' hf => run_builtin2 (hx.val hf rfl) (hy.val hf rfl) fun cs => ?_) (h _ W zs hzl ?_ ?_)
  · simp only [builtin, Sem.run_bind, hr, Result.andThen_ok, Sem.run_pure]
  · subst hW
    refine ⟨⟨?_, .inr ⟨w.heap.size, G, _, by rw [hlen], Nat.le_refl _, heap_alloc_new w.drew _, by rw [hlen]; exact hGe, hGm, ?_, ?_⟩⟩, ?_, by rw [hlen]; exact hl⟩
    · rw [List.flatten_append, List.length_append, hfl, hzf, hZl, hlen, Nat.add_mul]
    · simp only [Array.size_append, List.size_toArray, hfl, hzc, ← Nat.add_mul]
      congr 1; omega
    · rw [hlen, List.flatten_append, hzf, hZ]
      simp only [Array.toList_append, List.append_assoc]
      rw [← List.append_assoc]
      refine List.take_left' ?_
      rw [List.length_append, ← hZ, hZl, hfl, Nat.add_mul]
    · intro x hx
      rcases List.mem_append.1 hx with hx | hx
      · exact hxk x (List.mem_of_mem_take hx)
      · exact hzk x hx
  · subst hW; exact (Ext.drew w).trans (Ext.alloc _ _)

/-- a call of a function without a body, whose answer is known -/
theorem Step.callV {f : FuncId} {args : Array Operand} {ats : Array TypeId} {l : List Operand} {vs : List Value} {r : Value}
    (hg : guardE ops e ⟨some d, .call { callee := .value (.func f), args := args, argTypes := ats }, ty, pos, af, g⟩ = some none)
    (ha : args = ⟨l⟩) (hvs : evs e l = some vs) (hn : Nat.blt d X.n = true) (hr : (callFunc f ⟨vs⟩).run X.P w = .ok (.value r) w)
    (h : N ((d, none, r) :: e) w) : Step X ops ⟨some d, .call { callee := .value (.func f), args := args, argTypes := ats }, ty, pos, af, g⟩ e w N :=
  Step.eff rfl (by simpa [Nat.blt_eq] using hn) hg (fun _ hh => by cases hh) (fun t hft => by
    have := evs_map (ds := X.ds) hft hvs
    subst ha
    have h2 : (Array.mk l).map (Act.mk t X.ds).eval = ⟨vs⟩ := by simp [this]
    simp only [execOp, resolve, h2, Act.eval, Deferred.ofValue, Sem.run_bind, Sem.run_pure, Result.andThen_ok, invoke, Array.empty_append, Array.append_empty, hr]) h
/-- likewise, of a function held as a value -/
theorem Step.callXC {f : FuncId} {x : Operand} {cap : List Value} {args : Array Operand} {ats : Array TypeId} {l : List Operand} {vs : List Value} {v : Value}
    (hg : guardE ops e ⟨some d, .call { callee := .value x, args := args, argTypes := ats }, ty, pos, af, g⟩ = some c)
    (hx : Op1 e c x (.func (.func f) #[] ⟨cap⟩)) (ha : args = ⟨l⟩) (hvs : OpL e c l vs) (hf : Callable X.P f) (hn : Nat.blt d X.n = true) (hc : cv c = true → Ret X.P f ⟨vs ++ cap⟩ w fun r w' => r = v ∧ Ext w w')
    (h : ∀ w', Ext w w' → N ((d, c, v) :: e) w') : Step X ops ⟨some d, .call { callee := .value x, args := args, argTypes := ats }, ty, pos, af, g⟩ e w N := by
  intro t K Q hft hK
  rw [guardE_wanted hft hg]
  cases hcv : cv c with
  | false =>
    rw [if_neg (by simp)]
    have := hK _ _ _ (h w (Ext.refl w)) (hft.put (by simpa [Nat.blt_eq] using hn) c v)
    simp only [gval, hcv] at this
    exact this
  | true =>
    rw [if_pos rfl]
    refine ⟨fun _ _ => trivial, ?_⟩
    rw [Oper.semAt_eq _ _ _ (fun _ hh => by cases hh)]
    have h1 := hvs.map (ds := X.ds) hft hcv
    subst ha
    have h2 : (Array.mk l).map (Act.mk t X.ds).eval = ⟨vs⟩ := by simp [h1]
    have h3 : (Act.mk t X.ds).eval x = .func (.func f) #[] ⟨cap⟩ := hx.val hft hcv
    have h4 : (⟨vs⟩ : Array Value) ++ ⟨cap⟩ = ⟨vs ++ cap⟩ := by simp
    have hr : (execOp (Act.mk t X.ds).eval ⟨some d, .call { callee := .value x, args := ⟨l⟩, argTypes := ats }, ty, pos, af, g⟩).run X.P w = .ok (.enter f ⟨vs ++ cap⟩) w := by
      simp only [execOp, resolve, h2, h3, Deferred.ofValue, Sem.run_bind, Sem.run_pure, Result.andThen_ok, invoke, Array.empty_append, h4, run_callFunc hf]
    show Oper.uponIn _ _ _ _ _ _ _ ((execOp (Act.mk t X.ds).eval _).run X.P w)
    rw [hr]
    refine ⟨fun h => by simp [Fence.wide] at h, callsW (Calls.mono (hc hcv) ?_)⟩
    rintro en w' ⟨r, rfl, rfl, hx⟩
    show K (Act.put _ (some d) r) w'
    have := hK _ _ _ (h w' hx) (hft.put (by simpa [Nat.blt_eq] using hn) c r)
    simp only [gval, hcv] at this
    exact this
end

/-- two rows in two blocks do not overlap -/
theorem overlaps_no {P : Program} (T : Tb P) {w : World} {tS tR et : TypeId} {z : Value} {k bytes B B' : Nat} {u v : Value} {xs ys : List (List Value)} (ht : T.ty tS = some (.slice et)) (hi : T.inf et = some (z, k, bytes)) (hk : 0 < k)
    (hu : Owns w B u et k ys) (hv : Owns w B' v et k xs) (hy : 0 < ys.length) (hne : ∀ b, some b = u.ownBlock → some b ≠ v.ownBlock) {o : Nat} (ho : o < xs.length) :
    (Extern.SlicesOverlaps.overlaps #[tS, tS] #[tR] #[u, subS v k o xs.length]).run P w = .ok (.bool false) w := by
  obtain ⟨g1, cap1, cur1, rfl, _, hg1, hc1, _, hs1, _⟩ := hu.shape hy
  obtain ⟨g2, cap2, cur2, rfl, _, hg2, hc2, _, hs2, _⟩ := hv.shape (by omega)
  have hgg : g1 ≠ g2 := fun h => hne g1 rfl (by rw [h]; rfl)
  have hp : subS (Value.slice (some ⟨g2, 0, none⟩) xs.length cap2) k o xs.length = .slice (some ⟨g2, o * k, none⟩) (xs.length - o) (cap2 - o) := by
    simp only [subS, if_neg (show ¬ cap2 = o by omega), Option.map_some, Addr.add_lit, Nat.zero_add]
  rw [hp]
  have h2 : 0 < cap2 * k := Nat.mul_pos (by omega) hk
  refine Lib.run_overlaps_apart w tS tR et (T.ok _ _ ht) k (fun w => run_sizeOf hi w) ⟨g1, 0, none⟩ ⟨g2, o * k, none⟩ _ _ _ _ hgg et et cur1.size cur2.size ?_ ?_ (by omega) ?_ ?_
  · simp [World.shape?, hg1]
  · simp [World.shape?, hg2]
  · exact frozen_of_row w g1 0 cur1 et hg1
  · exact frozen_of_row w g1 _ cur1 et hg1
section
variable {X : Cx} {ops : Array Oper} {e : Env} {w : World} {S : World → Prop} {N : Env → World → Prop} {lb : List (Oper × Bool)} {d : Nat} {c : Option Bool} {ty : TypeId} {pos : String} {af : Array Edge} {g : Option (Nat × Bool)}
theorem dAr {op : BinOp} {xt yt : TypeId} {x y : Operand} {q : IntKind} {a b r : Int} (h : GMN X ops S N lb ((d, c, .int q r) :: e) w)
    (hg : guardE ops e ⟨some d, .binOp op xt x y yt, ty, pos, af, g⟩ = some c := by exact rfl) (hx : Op1 e c x (.int q a) := by exact Op1.of rfl (by first | exact fun _ => rfl | exact fun h => h)) (hy : Op1 e c y (.int q b) := by exact Op1.of rfl (by first | exact fun _ => rfl | exact fun h => h))
    (hp : match op with | .add => q.wrap (a + b) = r | .sub => q.wrap (a - b) = r | .mul => q.wrap (a * b) = r | _ => False := by exact rfl) (hn : Nat.blt d X.n = true := by exact rfl) :
    GMN X ops S N ((⟨some d, .binOp op xt x y yt, ty, pos, af, g⟩, true) :: lb) e w := GM.read (fun w' hS => Step.arith hg hx hy hp hn ⟨rfl, rfl⟩) rfl hn h
theorem dCb (T : Tb X.P) {x : Operand} {src dst : TypeId} {q : IntKind} {m : Int} {sd : TypeDesc} (h : GMN X ops S N lb ((d, c, U (byI m)) :: e) w)
    (hg : guardE ops e ⟨some d, .convert src dst x, ty, pos, af, g⟩ = some c := by exact rfl) (hx : Op1 e c x (.int q m) := by exact Op1.of rfl (by first | exact fun _ => rfl | exact fun h => h)) (hs : T.ty src = some sd := by exact rfl) (ht : T.ty dst = some (.int .u8) := by exact rfl) (hn : Nat.blt d X.n = true := by exact rfl) :
    GMN X ops S N ((⟨some d, .convert src dst x, ty, pos, af, g⟩, true) :: lb) e w := GM.read (fun w' hS => Step.convB T hg hx hs ht hn ⟨rfl, rfl⟩) rfl hn h
end
/-- two results in boxes -/
theorem resC2 {P : Program} {fn : Func} {n : Nat} {e : Env} {t : Array Value} (hf : Fits n e t) {s ty s' ty' : Nat} {p u p' u' : Value} {d d' : TypeDesc} (hr : fn.results = #[.cell s ty, .cell s' ty']) (hv : look e s = some (none, p)) (hv' : look e s' = some (none, p'))
    (ht : P.underlying ty = some d) (ha : aggT d = false) (ht' : P.underlying ty' = some d') (ha' : aggT d' = false) {w : World} (hc : CellAt w p u) (hc' : CellAt w p' u') : (results fn t).run P w = .ok (.tuple ⟨[u, u']⟩) w := by
  obtain ⟨a, rfl, hc⟩ := hc
  obtain ⟨a', rfl, hc'⟩ := hc'
  have h1 : t.getD s undef = .pointer (some a) := (hf.get _ _ _ hv).2
  have h1' : t.getD s' undef = .pointer (some a') := (hf.get _ _ _ hv').2
  have h2 : (loadVar ty a).run P w = .ok u w := by
    simp [loadVar, Sem.run_bind, run_isAgg ht, ha, hc]
  have h2' : (loadVar ty' a').run P w = .ok u' w := by
    simp [loadVar, Sem.run_bind, run_isAgg ht', ha', hc']
  simp only [results, hr, List.mapM_toArray, List.mapM_cons, List.mapM_nil, h1, h1', asAddr, Sem.run_bind, Sem.run_map, Sem.run_pure, Result.andThen_ok, h2, h2']
  rfl
end Go.Vg
namespace Go.Vg
open Go.RowKit
section
variable {X : Cx} {ops : Array Oper} {l : List Oper} {kk : List Kt} {e : Env} {w : World} {N : Env → World → Prop} {d : Nat} {c : Option Bool} {ty : TypeId} {pos : String} {af : Array Edge} {g : Option (Nat × Bool)}
theorem Step.strBytes (T : Tb X.P) {x : Operand} {src dst et : TypeId} {s : List UInt8} (hg : guardE ops e ⟨some d, .convert src dst x, ty, pos, af, g⟩ = some none)
    (hx : Op1 e none x (S s)) (hs : T.ty src = some .string) (ht : T.ty dst = some (.slice et)) (he : T.ty et = some (.int .u8)) (hl : s.length ≤ 9223372036854775807) (hn : Nat.blt d X.n = true)
    (h : ∀ v w', By w' v s → w'.heap.size = w.heap.size + 1 → Ext w w' → N ((d, none, v) :: e) w') : Step X ops ⟨some d, .convert src dst x, ty, pos, af, g⟩ e w N := by
  have hr := run_bytes_of_string w src dst et ⟨⟨s⟩⟩ (T.ok _ _ hs) (T.ok _ _ ht) (T.ok _ _ he)
  obtain ⟨G, hG⟩ : ∃ G, G = grownCap w (⟨⟨s⟩⟩ : ByteArray).size 0 et := ⟨_, rfl⟩
  have hge := grownCap_ge w (⟨⟨s⟩⟩ : ByteArray).size 0 et
  rw [← hG] at hr hge
  have hsz : (⟨⟨s⟩⟩ : ByteArray).size = s.length := rfl
  rw [hsz] at hr hge
  refine Step.eff rfl (by simpa [Nat.blt_eq] using hn) hg (fun _ hh => by cases hh) (fun t' hf => ?_) (h (.slice (some ⟨w.heap.size, 0, none⟩) s.length G) (w.drew.alloc (.cells (bytesRow ⟨⟨s⟩⟩ G) et ((bytesRow ⟨⟨s⟩⟩ G).size, (bytesRow ⟨⟨s⟩⟩ G).size + 1))) ?_ (by simp) ((Ext.drew w).trans (Ext.alloc _ _)))
  · have hv := hx.val (ds := X.ds) hf rfl
    simp only [execOp, hv]
    have : S s = .string ⟨⟨s⟩⟩ := rfl
    rw [this]
    simp only [Sem.run_bind, hr, Result.andThen_ok, Sem.run_pure]
  · refine .inr ⟨⟨w.heap.size, 0, none⟩, G, by rw [bysC_len], rfl, by rw [bysC_len]; exact hge, bysC_k s, ?_, by rw [bysC_len]; exact hl⟩
    intro i x hx j u hu
    have hi : i < s.length := by
      have := (List.getElem?_eq_some_iff.1 hx).1
      rwa [bysC_len] at this
    rw [bysC_get hi] at hx
    cases hx
    have hj : j = 0 := by
      have := (List.getElem?_eq_some_iff.1 hu).1
      simp at this; exact this
    subst hj
    cases hu
    simp only [Addr.add_lit, Nat.zero_add, Nat.mul_one, Nat.add_zero]
    refine (cell_of_row _ w.heap.size i (bytesRow ⟨⟨s⟩⟩ G) et _ (heap_alloc_new w.drew _)).trans ?_
    unfold bytesRow
    have hm : ((⟨⟨s⟩⟩ : ByteArray).data.map (fun b => Value.int .u8 b.toNat)).size = s.length := by simp
    rw [Array.getElem?_append_left (by rw [hm]; exact hi)]
    simp [List.getD, hi, U]
end
end Go.Vg
namespace Go.Vg
open Go.RowKit
section
variable {X : Cx} {ops : Array Oper} {l : List Oper} {kk : List Kt} {e : Env} {w : World} {N : Env → World → Prop} {d : Nat} {c : Option Bool} {ty : TypeId} {pos : String} {af : Array Edge} {g : Option (Nat × Bool)}
/-- the elements of an array of one's own from place a on (a < n): the slice, and what it holds -/
theorem Step.sliceArr (T : Tb X.P) {x i : Operand} {st et n by_ b a : Nat} {z : Value} {m : Int} {us : List Value} (hg : guardE ops e ⟨some d, .slice st x (some i) none none, ty, pos, af, g⟩ = some none)
    (hx : Op1 e none x (ptr b)) (hlo : Op1 e none i (.int .i64 m)) (ht : T.ty st = some (.array n et)) (hz : T.inf et = some (z, 1, by_)) (hb : Bx w b us) (hl : us.length = n) (hm : m = a) (ha : a < n) (hn9 : n ≤ 1000000) (hn : Nat.blt d X.n = true)
    (h : ∀ v, Sli w v 1 ((us.drop a).map fun u => [u]) → N ((d, none, v) :: e) w) : Step X ops ⟨some d, .slice st x (some i) none none, ty, pos, af, g⟩ e w N := by
  subst hm
  have hT := T.ok _ _ ht
  have hb1 : ∀ code, (Instr.sliceBound (.int .i64 a) n code).run X.P w = .ok a w := fun code => by
    have := run_sliceBound (P := X.P) w .i64 (a : Int) n code (by omega) (by omega)
    simpa using this
  have h3 : (Instr.sliceAt st (ptr b) (some (.int .i64 a)) none none).run X.P w = .ok (.slice (some ⟨b, a, none⟩) (n - a) (n - a)) w := by
    have hne : ¬ n = a := by omega
    simp only [Instr.sliceAt, Sem.run_bind, run_underlying hT, Result.andThen_ok, ptr, Instr.sureAddr, Instr.sliceBounds, Sem.run_pure, hb1, run_sizeOf hz, if_neg hne, Nat.mul_one, Addr.add_lit, Nat.zero_add]
  refine Step.eff rfl (by simpa [Nat.blt_eq] using hn) hg (fun _ hh => by cases hh) (fun t hf => ?_) (h (.slice (some ⟨b, a, none⟩) (n - a) (n - a)) ?_)
  · simp only [execOp, hx.val hf rfl, hlo.val hf rfl, Option.map_some, Option.map_none, Sem.run_bind, h3, Result.andThen_ok, Sem.run_pure]
  · have hdl : ((us.drop a).map fun u => [u]).length = n - a := by rw [List.length_map, List.length_drop, hl]
    obtain ⟨t, hb⟩ := hb
    refine .inr ⟨⟨b, a, none⟩, n - a, by rw [hdl], rfl, by rw [hdl]; exact Nat.le_refl _, ?_, ?_, by rw [hdl]; omega⟩
    · intro y hy
      obtain ⟨u, _, rfl⟩ := List.mem_map.1 hy
      rfl
    · intro j y hy k u hu
      rw [List.getElem?_map, Option.map_eq_some_iff] at hy
      obtain ⟨u', hu', rfl⟩ := hy
      have hk : k = 0 := by
        have := (List.getElem?_eq_some_iff.1 hu).1
        simp at this; exact this
      subst hk
      cases hu
      rw [List.getElem?_drop] at hu'
      simp only [Addr.add_lit, Nat.mul_one, Nat.add_zero]
      refine (cell_of_row w b (a + j) ⟨us⟩ t (0, 0) hb).trans ?_
      simpa using hu'
end
end Go.Vg
namespace Go.Vg
open Go.RowKit

abbrev TT := List (List UInt8 × List UInt8)
def aget : TT → List UInt8 → Option (List UInt8)
  | [], _ => none
  | p :: r, x => if p.1 = x then some p.2 else aget r x
def aput : TT → List UInt8 → List UInt8 → TT
  | [], x, y => [(x, y)]
  | p :: r, x, y => if p.1 = x then (x, y) :: r else p :: aput r x y
def mpC (es : TT) : List (Value × Value) := es.map fun p => (S p.1, S p.2)
/-- block b is a map of texts by texts -/
def Mp (w : World) (b : Nat) (es : TT) : Prop := ∃ ms clock, w.heap[b]? = some (.map ⟨ms⟩ clock) ∧ ms.map (fun e => (e.key, e.val)) = mpC es
theorem Mp.lt {w : World} {b : Nat} {es : TT} (h : Mp w b es) : b < w.heap.size := by
  obtain ⟨ms, clock, h, _⟩ := h; exact (Array.getElem?_eq_some_iff.1 h).1
theorem Mp.to {w w' : World} {b : Nat} {es : TT} (h : Mp w b es) (hx : Ext w w') : Mp w' b es := by
  obtain ⟨ms, clock, h, h2⟩ := h
  exact ⟨ms, clock, by rw [hx.block b (Array.getElem?_eq_some_iff.1 h).1]; exact h, h2⟩
theorem Mp.wr {w w' : World} {b b' : Nat} {es : TT} (h : Mp w b es) (hw : Wr b' w w') (hne : b ≠ b') : Mp w' b es := by
  obtain ⟨ms, clock, h, h2⟩ := h
  exact ⟨ms, clock, by rw [hw.block b hne]; exact h, h2⟩

theorem isKeyS (x : List UInt8) : MapKept.IsKey .string (S x) := by simp [MapKept.IsKey, S]
theorem S_inj {a b : List UInt8} (h : S a = S b) : a = b := by
  simp only [S, Value.string.injEq, ByteArray.mk.injEq, Array.mk.injEq] at h
  exact h
theorem keysOf {ms : List MapEntry} {es : TT} (h : ms.map (fun e => (e.key, e.val)) = mpC es) : ∀ x ∈ ms, MapKept.IsKey .string x.key := by
  intro x hx
  have : (x.key, x.val) ∈ mpC es := by rw [← h]; exact List.mem_map.2 ⟨x, hx, rfl⟩
  obtain ⟨p, _, hp⟩ := List.mem_map.1 this
  have : x.key = S p.1 := (congrArg Prod.fst hp).symm
  rw [this]; exact isKeyS _
theorem sameNow_S (a b : List UInt8) : Instr.sameNow .string (S a) (S b) = some (decide (a = b)) := by
  show some ((⟨⟨a⟩⟩ : ByteArray) == ⟨⟨b⟩⟩) = _
  congr 1
  by_cases h : a = b
  · subst h; rw [decide_eq_true rfl]; exact (MapKept.bytes_beq _ _).2 rfl
  · rw [decide_eq_false h]
    cases hb : ((⟨⟨a⟩⟩ : ByteArray) == ⟨⟨b⟩⟩) with
    | false => rfl
    | true =>
      have := (MapKept.bytes_beq _ _).1 hb
      simp only [ByteArray.mk.injEq, Array.mk.injEq] at this
      exact absurd this h
theorem findNow_S (x : List UInt8) : ∀ (ms : List MapEntry) (es : TT) (i : Nat), ms.map (fun e => (e.key, e.val)) = mpC es →
    (Instr.findNow .string (S x) ms i = some none ∧ aget es x = none ∧ (∀ y, aput es x y = es ++ [(x, y)])) ∨
    ∃ j e v, Instr.findNow .string (S x) ms i = some (some (i + j, S v)) ∧ aget es x = some v ∧ ms[j]? = some e ∧ e.key = S x ∧ ∀ y, aput es x y = es.set j (x, y)
  | [], [], i, _ => .inl ⟨rfl, rfl, fun _ => rfl⟩
  | [], _ :: _, _, h => by cases h
  | _ :: _, [], _, h => by cases h
  | e :: ms, p :: es, i, h => by
    simp only [mpC, List.map_cons, List.cons.injEq, Prod.mk.injEq] at h
    obtain ⟨⟨hk, hv⟩, hr⟩ := h
    by_cases hx : p.1 = x
    · refine .inr ⟨0, e, p.2, ?_, by simp [aget, hx], rfl, by rw [hk, hx], fun y => by simp [aput, hx]⟩
      simp only [Instr.findNow, hk, sameNow_S, decide_eq_true hx.symm, hv, Nat.add_zero]
    · have hx' : ¬ x = p.1 := fun q => hx q.symm
      have hf : Instr.findNow .string (S x) (e :: ms) i = Instr.findNow .string (S x) ms (i + 1) := by
        simp only [Instr.findNow, hk, sameNow_S, decide_eq_false hx']
      rcases findNow_S x ms es (i + 1) hr with ⟨h1, h2, h3⟩ | ⟨j, e', v, h1, h2, h3, h4, h5⟩
      · exact .inl ⟨by rw [hf, h1], by simp [aget, hx, h2], fun y => by simp [aput, hx, h3]⟩
      · exact .inr ⟨j + 1, e', v, by rw [hf, h1, show i + 1 + j = i + (j + 1) by omega], by simp [aget, hx, h2], by simpa using h3, h4, fun y => by simp [aput, hx, h5]⟩

section
variable {X : Cx} {ops : Array Oper} {e : Env} {w : World} {N : Env → World → Prop} {d : Nat} {c : Option Bool} {ty : TypeId} {pos : String} {af : Array Edge} {g : Option (Nat × Bool)}
theorem Step.makeMap {t : TypeId} (hg : guardE ops e ⟨some d, .makeMap t none, ty, pos, af, g⟩ = some none) (hn : Nat.blt d X.n = true)
    (h : ∀ w', Mp w' w.heap.size [] → w'.heap.size = w.heap.size + 1 → Ext w w' → N ((d, none, .map (some w.heap.size)) :: e) w') : Step X ops ⟨some d, .makeMap t none, ty, pos, af, g⟩ e w N :=
  Step.eff (v := .map (some w.heap.size)) (w' := w.alloc (.map #[] 0)) rfl (by simpa [Nat.blt_eq] using hn) hg (fun _ hh => by cases hh) (fun t' _ => rfl)
    (h _ ⟨[], 0, heap_alloc_new _ _, rfl⟩ (by simp) (Ext.alloc _ _))

theorem Step.lookupM (T : Tb X.P) {x i : Operand} {t kt et : TypeId} {b s by_ : Nat} {k : List UInt8} {es : TT} {ok : Bool}
    (hg : guardE ops e ⟨some d, .lookup t x i ok, ty, pos, af, g⟩ = some c) (hx : Op1 e c x (.map (some b))) (hi : Op1 e c i (S k)) (ht : T.ty t = some (.map kt et)) (hk : T.ty kt = some .string) (hz : T.inf et = some (S [], s, by_))
    (hm : cv c = true → Mp w b es) (hn : Nat.blt d X.n = true)
    (h : N ((d, c, match ok with | true => .tuple ⟨[S ((aget es k).getD []), .bool (aget es k).isSome]⟩ | false => S ((aget es k).getD [])) :: e) w) : Step X ops ⟨some d, .lookup t x i ok, ty, pos, af, g⟩ e w N :=
  Step.quiet rfl (by simpa [Nat.blt_eq] using hn) hg (fun _ hh => by cases hh) (fun t' hf hc => by
    obtain ⟨ms, clock, hb, he⟩ := hm hc
    obtain ⟨inf, hi1, hi2, _⟩ := T.iok _ _ _ _ hz
    have hck := fun (em : Bool) => MapKept.run_checkKey (P := X.P) (w := w) (T.ok _ _ hk) (isKeyS k) em 9999
    simp only [execOp, hx.val hf hc, hi.val hf hc, Instr.lookup, Sem.run_bind, run_underlying (T.ok _ _ ht), Result.andThen_ok, MapKept.run_getObj_map hb, Sem.run_pure, hck]
    rcases findNow_S k ms es 0 he with ⟨h1, h2, _⟩ | ⟨j, e0, v, h1, h2, _, _, _⟩
    · have hf1 := MapKept.run_findKey (P := X.P) (w := w) (T.ok _ _ hk) h1
      simp only [hf1, Result.andThen_ok, Sem.run_bind, zeroValue, typeInfo, run_program, hi1, hi2, Sem.run_pure, h2]
      cases ok <;> rfl
    · have hf1 := MapKept.run_findKey (P := X.P) (w := w) (T.ok _ _ hk) h1
      simp only [hf1, Result.andThen_ok, Sem.run_pure, h2]
      cases ok <;> rfl) h

theorem Step.mapUpdate (T : Tb X.P) {x i y : Operand} {t kt et : TypeId} {b : Nat} {k v : List UInt8} {es : TT}
    (hg : guardE ops e ⟨none, .mapUpdate t x i y, ty, pos, af, g⟩ = some none) (hx : Op1 e none x (.map (some b))) (hi : Op1 e none i (S k)) (hy : Op1 e none y (S v)) (ht : T.ty t = some (.map kt et)) (hk : T.ty kt = some .string)
    (hm : Mp w b es) (h : ∀ w', Mp w' b (aput es k v) → Wr b w w' → N e w') : Step X ops ⟨none, .mapUpdate t x i y, ty, pos, af, g⟩ e w N := by
  obtain ⟨ms, clock, hb, he⟩ := hm
  have hck := MapKept.run_checkKey (P := X.P) (w := w) (T.ok _ _ hk) (isKeyS k) false 9999
  have hwr : ∀ o, Wr b w { w with heap := w.heap.setIfInBounds b o } := fun o => ⟨rfl, rfl, rfl, by simp, fun r' hne => (MapKept.heap_set hb).2 r' hne⟩
  rcases findNow_S k ms es 0 he with ⟨h1, h2, h3⟩ | ⟨j, e0, v0, h1, h2, h3, h4, h5⟩
  · have hf1 := MapKept.run_findKey (P := X.P) (w := w) (T.ok _ _ hk) h1
    refine Step.effNone (w' := { w with heap := w.heap.setIfInBounds b (.map ((⟨ms⟩ : Array MapEntry).push { key := S k, val := S v, born := clock }) (clock + 1)) }) rfl hg (fun _ hh => by cases hh) (fun t' hf => ?_) (h _ ⟨ms ++ [{ key := S k, val := S v, born := clock }], clock + 1, ?_, ?_⟩ (hwr _))
    · simp only [execOp, hx.val hf rfl, hi.val hf rfl, hy.val hf rfl, Instr.mapUpdate, Sem.run_bind, run_underlying (T.ok _ _ ht), Result.andThen_ok, MapKept.run_getObj_map hb, hck, hf1, MapKept.run_setObj_map _ hb, Sem.run_pure]
    · have := (MapKept.heap_set (o' := .map ((⟨ms⟩ : Array MapEntry).push { key := S k, val := S v, born := clock }) (clock + 1)) hb).1
      simpa using this
    · rw [h3, List.map_append, he]; simp [mpC]
  · have hf1 := MapKept.run_findKey (P := X.P) (w := w) (T.ok _ _ hk) h1
    have hst := MapKept.run_keyThatStays (P := X.P) (w := w) (isKeyS k)
    have hj : ((⟨ms⟩ : Array MapEntry)[j]?) = some e0 := by simpa using h3
    refine Step.effNone (w' := { w with heap := w.heap.setIfInBounds b (.map ((⟨ms⟩ : Array MapEntry).modify j fun e => { e with key := S k, val := S v }) clock) }) rfl hg (fun _ hh => by cases hh) (fun t' hf => ?_) (h _ ⟨((⟨ms⟩ : Array MapEntry).modify j fun e => { e with key := S k, val := S v }).toList, clock, ?_, ?_⟩ (hwr _))
    · simp only [execOp, hx.val hf rfl, hi.val hf rfl, hy.val hf rfl, Instr.mapUpdate, Sem.run_bind, run_underlying (T.ok _ _ ht), Result.andThen_ok, MapKept.run_getObj_map hb, hck, hf1, Nat.zero_add, hj, Option.map_some, Option.getD_some, h4, hst, MapKept.run_setObj_map _ hb, Sem.run_pure]
    · exact (MapKept.heap_set hb).1
    · rw [h5]
      apply List.ext_getElem?
      intro i
      have hi := congrArg (fun l => l[i]?) he
      simp only [List.getElem?_map, mpC] at hi
      simp only [List.getElem?_map, Array.getElem?_toList, Array.getElem?_modify, mpC, List.getElem?_set]
      have hlen : ms.length = es.length := by have := congrArg List.length he; simpa [mpC] using this
      have hjl : j < es.length := by rw [← hlen]; exact (List.getElem?_eq_some_iff.1 h3).1
      by_cases hij : j = i
      · subst hij
        rw [if_pos rfl, if_pos rfl, if_pos hjl]
        rw [show ((⟨ms⟩ : Array MapEntry)[j]?) = some e0 from hj]
        rfl
      · rw [if_neg hij, if_neg hij]
        simpa using hi
end
section
variable {X : Cx} {ops : Array Oper} {l : List Oper} {k : List Kt} {e : Env} {w : World} {d : Nat} {c : Option Bool} {ty : TypeId} {pos : String} {af : Array Edge} {g : Option (Nat × Bool)}
theorem sMk {t : TypeId} (h : ∀ w', Mp w' w.heap.size [] → w'.heap.size = w.heap.size + 1 → Ext w w' → GL X ops l k ((d, none, .map (some w.heap.size)) :: e) w')
    (hg : guardE ops e ⟨some d, .makeMap t none, ty, pos, af, g⟩ = some none := by exact rfl) (hn : Nat.blt d X.n = true := by exact rfl) :
    GL X ops (⟨some d, .makeMap t none, ty, pos, af, g⟩ :: l) k e w := GL.cons (Step.makeMap hg hn h)
theorem sLk (T : Tb X.P) {x i : Operand} {t kt et : TypeId} {b s by_ : Nat} {key : List UInt8} {es : TT}
    (h : GL X ops l k ((d, c, S ((aget es key).getD [])) :: e) w)
    (hg : guardE ops e ⟨some d, .lookup t x i false, ty, pos, af, g⟩ = some c := by exact rfl) (hx : Op1 e c x (.map (some b)) := by exact Op1.of rfl (by first | exact fun _ => rfl | exact fun h => h | exact fun h => bL h | exact fun h => bL (bL h))) (hi : Op1 e c i (S key) := by exact Op1.of rfl (by first | exact fun _ => rfl | exact fun h => h | exact fun h => bL h | exact fun h => bL (bL h))) (ht : T.ty t = some (.map kt et) := by exact rfl) (hk : T.ty kt = some .string := by exact rfl) (hz : T.inf et = some (S [], s, by_) := by exact rfl)
    (hm : cv c = true → Mp w b es := by intro _; assumption) (hn : Nat.blt d X.n = true := by exact rfl) :
    GL X ops (⟨some d, .lookup t x i false, ty, pos, af, g⟩ :: l) k e w := GL.cons (Step.lookupM T hg hx hi ht hk hz hm hn h)
theorem sLko (T : Tb X.P) {x i : Operand} {t kt et : TypeId} {b s by_ : Nat} {key : List UInt8} {es : TT}
    (h : GL X ops l k ((d, c, .tuple ⟨[S ((aget es key).getD []), .bool (aget es key).isSome]⟩) :: e) w)
    (hg : guardE ops e ⟨some d, .lookup t x i true, ty, pos, af, g⟩ = some c := by exact rfl) (hx : Op1 e c x (.map (some b)) := by exact Op1.of rfl (by first | exact fun _ => rfl | exact fun h => h | exact fun h => bL h | exact fun h => bL (bL h))) (hi : Op1 e c i (S key) := by exact Op1.of rfl (by first | exact fun _ => rfl | exact fun h => h | exact fun h => bL h | exact fun h => bL (bL h))) (ht : T.ty t = some (.map kt et) := by exact rfl) (hk : T.ty kt = some .string := by exact rfl) (hz : T.inf et = some (S [], s, by_) := by exact rfl)
    (hm : cv c = true → Mp w b es := by intro _; assumption) (hn : Nat.blt d X.n = true := by exact rfl) :
    GL X ops (⟨some d, .lookup t x i true, ty, pos, af, g⟩ :: l) k e w := GL.cons (Step.lookupM T hg hx hi ht hk hz hm hn h)
theorem sMu (T : Tb X.P) {x i y : Operand} {t kt et : TypeId} {b : Nat} {key v : List UInt8} {es : TT}
    (h : ∀ w', Mp w' b (aput es key v) → Wr b w w' → GL X ops l k e w') (hm : Mp w b es)
    (hg : guardE ops e ⟨none, .mapUpdate t x i y, ty, pos, af, g⟩ = some none := by exact rfl) (hx : Op1 e none x (.map (some b)) := by exact Op1.of rfl (by first | exact fun _ => rfl | exact fun h => h | exact fun h => bL h | exact fun h => bL (bL h))) (hi : Op1 e none i (S key) := by exact Op1.of rfl (by first | exact fun _ => rfl | exact fun h => h | exact fun h => bL h | exact fun h => bL (bL h))) (hy : Op1 e none y (S v) := by exact Op1.of rfl (by first | exact fun _ => rfl | exact fun h => h | exact fun h => bL h | exact fun h => bL (bL h))) (ht : T.ty t = some (.map kt et) := by exact rfl) (hk : T.ty kt = some .string := by exact rfl) :
    GL X ops (⟨none, .mapUpdate t x i y, ty, pos, af, g⟩ :: l) k e w := GL.cons (Step.mapUpdate T hg hx hi hy ht hk hm h)
end
theorem post_goto {ρ : Option Nat} {P : Program} {fin : Exit → Act → World → Prop} {l : Nat} {a : Act} {w : World} : ∀ {k : List Kt}, post ρ P fin k (.goto l) a w → fin (.goto l) a w
  | [], h => h
  | .code _ :: k, h => post_goto (k := k) h
  | .lp _ :: k, h => post_goto (k := k) h
  | .blk _ :: k, h => post_goto (k := k) h
/-- a stretch with labels that nobody jumps to -/
theorem G.scope {X : Cx} {k : List Kt} {e : Env} {w : World} {c : Code} {P : Program} {fn : Func} {R : Value → World → Prop} (hX : X.fin = retFin P fn R) (hr : X.ρ = none) (h : G X (.code c :: k) e w) : G X (.code (.scope c) :: k) e w := by
  intro t ht
  have h1 := h t ht
  simp only [post] at h1 ⊢
  rw [hr] at h1 ⊢
  refine (wpIn_wide (n := 0)).2 (wp_scope_straight ((wpIn_wide (n := 0)).1 (wpIn_mono h1 ?_)))
  intro ex a w' hq
  cases ex with
  | goto l =>
    have := post_goto hq
    rw [hX] at this
    exact this.elim
  | _ => exact hq
theorem G.ret3 {X : Cx} {k : List Kt} {e : Env} {w : World} {P : Program} {fn : Func} {R : Value → World → Prop} (hX : X.fin = retFin P fn R) (hd : X.ds = []) {s s' s'' : Nat} {v v' v'' : Value}
    (hr : fn.results = #[.tmp s, .tmp s', .tmp s'']) (hv : look e s = some (none, v)) (hv' : look e s' = some (none, v')) (hv'' : look e s'' = some (none, v'')) (h : R (.tuple ⟨[v, v', v'']⟩) w) : G X (.code .ret :: k) e w := by
  refine G.ret fun t ht => ?_
  rw [hX, hd]
  refine ⟨rfl, _, ?_, _, rfl, h⟩
  rw [results_tmp3 hr, (ht.get _ _ _ hv).2, (ht.get _ _ _ hv').2, (ht.get _ _ _ hv'').2]
  rfl
/-- a result in a box, and one beside it -/
theorem G.retAT {X : Cx} {k : List Kt} {e : Env} {w : World} {P : Program} {fn : Func} {R : Value → World → Prop} (T : Tb P) (hX : X.fin = retFin P fn R) (hd : X.ds = []) {s ty sz b s' : Nat} {z p v : Value} {us : List Value} {td : TypeDesc}
    (hc : CellsAt w p us) (h : R (.tuple ⟨[.agg ⟨us⟩, v]⟩) w) (hr : fn.results = #[.cell s ty, .tmp s']) (hv : look e s = some (none, p)) (hv' : look e s' = some (none, v)) (ht : T.ty ty = some td) (ha : aggT td = true) (hi : T.inf ty = some (z, sz, b)) (hl : us.length = sz) : G X (.code .ret :: k) e w := by
  refine G.ret fun t hf => ?_
  rw [hX, hd]
  refine ⟨rfl, _, ?_, _, rfl, h⟩
  obtain ⟨a, rfl, _, hc⟩ := hc
  subst hl
  have h1 : t.getD s undef = .pointer (some a) := (hf.get _ _ _ hv).2
  have h1' : t.getD s' undef = v := (hf.get _ _ _ hv').2
  have h0 := run_loadCells_list (P := P) w a us hc
  have h2 : (loadVar ty a).run P w = .ok (.agg ⟨us⟩) w := by
    simp only [loadVar, Sem.run_bind, Sem.run_pure, Result.andThen_ok, run_isAgg (T.ok _ _ ht), ha, if_true, run_sizeOf hi, h0]
  simp only [results, hr, List.mapM_toArray, List.mapM_cons, List.mapM_nil, h1, h1', asAddr, Sem.run_bind, Sem.run_map, Sem.run_pure, Result.andThen_ok, h2]
  rfl
end Go.Vg
namespace Go.Vg
open Go.RowKit

/-- as Below, but that some block from B on may bear a mark -/
theorem Sli.same {w w' : World} {v : Value} {k : Nat} {xs : List (List Value)} (h : Sli w v k xs) (hc : ∀ a, w'.cell? a = w.cell? a) : Sli w' v k xs := by
  rcases h with h | ⟨a, cap, h1, h2, h3, h4, h5, h6⟩
  · exact .inl h
  · exact .inr ⟨a, cap, h1, h2, h3, h4, fun i x hx j u hu => by rw [hc]; exact h5 i x hx j u hu, h6⟩
section
variable {X : Cx} {ops : Array Oper} {l : List Oper} {k : List Kt} {e : Env} {w : World} {N : Env → World → Prop} {d : Nat} {c : Option Bool} {ty : TypeId} {pos : String} {af : Array Edge} {g : Option (Nat × Bool)}
theorem Step.markS (T : Tb X.P) {x : Operand} {t et : TypeId} {v : Value} {B : Nat} {xs : List UInt8} (hg : guardE ops e ⟨some d, .convert t t x, ty, pos, af, g⟩ = some none) (hx : Op1 e none x v) (ht : T.ty t = some (.slice et)) (he : T.ty et = some (.int .u8))
    (hv : Owns w B v et 1 (bysC xs)) (hne : xs ≠ []) (hn : Nat.blt d X.n = true) (h : ∀ w', By w' v xs → Below B w w' → N ((d, none, v) :: e) w') : Step X ops ⟨some d, .convert t t x, ty, pos, af, g⟩ e w N := by
  have hs := hv.sli
  rcases hv.1.2 with ⟨rfl, h0⟩ | ⟨gb, cap, cur, rfl, hB, hb, _, _, _, _⟩
  · rw [bysC_len] at h0
    exact absurd (List.length_eq_zero_iff.1 h0) hne
  · have hsh : w.shape? gb = some (et, cur.size) := by unfold World.shape?; rw [hb]
    obtain ⟨W, hW⟩ : ∃ W, W = w.freeze ⟨gb, cur.size, none⟩ 1 := ⟨_, rfl⟩
    have hblk : ∀ r, r ≠ gb → W.heap[r]? = w.heap[r]? := by
      intro r hr
      rw [hW]; unfold World.freeze; rw [if_neg (by decide)]
      show (w.heap.modify gb _)[r]? = _
      rw [Array.getElem?_modify, if_neg (fun q => hr q.symm)]
    have hsame : W.heap[gb]? = some (.cells cur et (cur.size, cur.size + 1)) := by
      rw [hW]; unfold World.freeze; rw [if_neg (by decide)]
      show (w.heap.modify gb _)[gb]? = _
      rw [Array.getElem?_modify, if_pos rfl, hb]; rfl
    have hsize : W.heap.size = w.heap.size := by
      rw [hW]; unfold World.freeze; rw [if_neg (by decide)]
      show (w.heap.modify gb _).size = _
      simp
    have hcell : ∀ a, W.cell? a = w.cell? a := by
      intro a
      unfold World.cell?
      by_cases ha : a.block = gb
      · rw [ha, hsame, hb]
      · rw [hblk _ ha]
    refine Step.eff (v := .slice (some ⟨gb, 0, none⟩) (bysC xs).length cap) (w' := W) rfl (by simpa [Nat.blt_eq] using hn) hg (fun _ hh => by cases hh) (fun t' hf => ?_) (h W (hs.same hcell) ?_)
    · have hr : (convert t t (.slice (some ⟨gb, 0, none⟩) (bysC xs).length cap)).run X.P w = .ok (.slice (some ⟨gb, 0, none⟩) (bysC xs).length cap) W := by
        rw [hW]
        simp [convert, run_underlying (T.ok _ _ ht), run_underlying (T.ok _ _ he), markStringish, hsh]
      simp only [execOp, hx.val hf rfl, Sem.run_bind, hr, Result.andThen_ok, Sem.run_pure]
    · have e1 : W.os = w.os ∧ W.tape = w.tape ∧ W.output = w.output := by
        rw [hW]; unfold World.freeze; rw [if_neg (by decide)]; exact ⟨rfl, rfl, rfl⟩
      exact ⟨e1.1, e1.2.1, e1.2.2, by rw [hsize]; exact Nat.le_refl _, fun r hr => hblk r (by omega)⟩
end
end Go.Vg
namespace Go.Vg
open Go.RowKit

theorem run_storeCells_f (P : Program) (t m : Nat) : ∀ (vs : List Value) (b o i : Nat) (us : List Value) (w : World), w.heap[b]? = some (.cells ⟨us⟩ t (m, m + 1)) → us.length = m → o + i + vs.length ≤ us.length → (∀ v ∈ vs, v.oneCell' = true) →
    ∃ w', (storeCells ⟨b, o, none⟩ vs i).run P w = .ok () w' ∧ Wr b w w' ∧ w'.heap[b]? = some (.cells ⟨us.take (o + i) ++ vs ++ us.drop (o + i + vs.length)⟩ t (m, m + 1))
  | [], b, o, i, us, w, h, _, _, _ => ⟨w, by simp [storeCells], Wr.refl b w, by simpa using h⟩
  | v :: r, b, o, i, us, w, hb, hm, hl, h1 => by
    simp only [List.length_cons] at hl
    have hc : (w.cell? ⟨b, o + i, none⟩).isSome = true := by
      rw [Joins.cell_of_block hb (o + i)]; simp; omega
    obtain ⟨u0, hu0⟩ := Option.isSome_iff_exists.1 hc
    have hf : w.frozen? ⟨b, o + i, none⟩ = false := by
      unfold World.frozen?
      simp only [hb]
      rw [show decide (m ≤ o + i) = false from decide_eq_false (by omega)]; rfl
    have hst := run_store P w ⟨b, o + i, none⟩ v .plain (h1 v (by simp))
    rw [hu0] at hst
    simp only [hf, Bool.false_eq_true, if_false] at hst
    have hb2 : (w.setCell ⟨b, o + i, none⟩ v).heap[b]? = some (.cells ⟨us.set (o + i) v⟩ t (m, m + 1)) := by
      have := Joins.block_setCell (i := o + i) hb v
      simpa using this
    obtain ⟨w', hr, hw, hx⟩ := run_storeCells_f P t m r b o (i + 1) _ _ hb2 (by simpa using hm) (by simp; omega) (fun u hu => h1 u (by simp [hu]))
    refine ⟨w', ?_, (Wr.setCell w b (o + i) v).trans hw, ?_⟩
    · simp only [storeCells, Sem.run_bind, Addr.add_lit, hst, Result.andThen_ok, hr]
    · have e : (us.set (o + i) v).take (o + (i + 1)) ++ r ++ (us.set (o + i) v).drop (o + (i + 1) + r.length) = us.take (o + i) ++ (v :: r) ++ us.drop (o + i + (v :: r).length) := by
        have h3 : o + i < us.length := by omega
        rw [show o + (i + 1) = (o + i) + 1 by omega, List.take_set, List.drop_set_of_lt (by omega)]
        rw [List.take_succ_eq_append_getElem (by simpa using h3)]
        rw [List.set_append_right _ _ (by simp; omega)]
        simp [show min (o + i) us.length = o + i by omega]
        congr 1; omega
      rw [← e]; exact hx

theorem zeroU (n : Nat) : (Builtin.zeroCells #[.int .u8 0] n).toList = List.replicate n (U 0) := by
  apply List.ext_getElem
  · simp [Builtin.zeroCells]
  · intro i h1 h2
    simp [Builtin.zeroCells, U, Nat.mod_one]
/-- a row whose first cells are bytes -/
theorem by_of {w : World} {b : Nat} {cs : List Value} {t cap : Nat} {fr : Nat × Nat} {l : List UInt8} (hb : w.heap[b]? = some (.cells ⟨cs⟩ t fr)) (h : cs.take l.length = l.map U) (hc : l.length ≤ cap) (hl : l.length ≤ 9223372036854775807) : By w (.slice (some ⟨b, 0, none⟩) l.length cap) l := by
  refine .inr ⟨⟨b, 0, none⟩, cap, by rw [bysC_len], rfl, by rw [bysC_len]; exact hc, bysC_k l, ?_, by rw [bysC_len]; exact hl⟩
  intro i x hx j u hu
  have hi : i < l.length := by
    have := (List.getElem?_eq_some_iff.1 hx).1
    rwa [bysC_len] at this
  rw [bysC_get hi] at hx
  cases hx
  have hj : j = 0 := by
    have := (List.getElem?_eq_some_iff.1 hu).1
    simp at this; exact this
  subst hj
  cases hu
  simp only [Addr.add_lit, Nat.zero_add, Nat.mul_one, Nat.add_zero]
  rw [Joins.cell_of_block hb i]
  have h2 : (cs.take l.length)[i]? = (l.map U)[i]? := by rw [h]
  rw [List.getElem?_take_of_lt hi, List.getElem?_map] at h2
  simpa [List.getD, hi] using h2
section
variable {X : Cx} {ops : Array Oper} {l : List Oper} {kk : List Kt} {e : Env} {w : World} {N : Env → World → Prop} {d : Nat} {c : Option Bool} {ty : TypeId} {pos : String} {af : Array Edge} {g : Option (Nat × Bool)}
/-- bytes of a text, the row known whole -/
theorem Step.strBytes2 (T : Tb X.P) {x : Operand} {src dst et : TypeId} {s : List UInt8} (hg : guardE ops e ⟨some d, .convert src dst x, ty, pos, af, g⟩ = some none)
    (hx : Op1 e none x (S s)) (hs : T.ty src = some .string) (ht : T.ty dst = some (.slice et)) (he : T.ty et = some (.int .u8)) (hn : Nat.blt d X.n = true)
    (h : ∀ w' G cs, w'.heap[w.heap.size]? = some (.cells ⟨cs⟩ et (cs.length, cs.length + 1)) → cs.take s.length = s.map U → cs.length = G → s.length ≤ G → w'.heap.size = w.heap.size + 1 → Ext w w' →
      N ((d, none, .slice (some ⟨w.heap.size, 0, none⟩) s.length G) :: e) w') : Step X ops ⟨some d, .convert src dst x, ty, pos, af, g⟩ e w N := by
  have hr := run_bytes_of_string w src dst et ⟨⟨s⟩⟩ (T.ok _ _ hs) (T.ok _ _ ht) (T.ok _ _ he)
  obtain ⟨G, hG⟩ : ∃ G, G = grownCap w (⟨⟨s⟩⟩ : ByteArray).size 0 et := ⟨_, rfl⟩
  have hge := grownCap_ge w (⟨⟨s⟩⟩ : ByteArray).size 0 et
  rw [← hG] at hr hge
  have hsz : (⟨⟨s⟩⟩ : ByteArray).size = s.length := rfl
  rw [hsz] at hr hge
  obtain ⟨cs, hcs⟩ : ∃ cs, cs = (bytesRow ⟨⟨s⟩⟩ G).toList := ⟨_, rfl⟩
  have hrow : bytesRow ⟨⟨s⟩⟩ G = ⟨cs⟩ := by rw [hcs]
  have hcl : cs.length = G := by
    rw [hcs, Array.length_toList]; unfold bytesRow
    simp only [Array.size_append, Array.size_map, Array.size_replicate]
    show s.length + (G - s.length) = G
    omega
  have htk : cs.take s.length = s.map U := by
    rw [hcs]; unfold bytesRow
    rw [Array.toList_append, Array.toList_map]
    exact List.take_left' (by simp)
  rw [hrow] at hr
  have hsize : (Array.mk cs).size = cs.length := rfl
  rw [hsize] at hr
  refine Step.eff rfl (by simpa [Nat.blt_eq] using hn) hg (fun _ hh => by cases hh) (fun t' hf => ?_) (h (w.drew.alloc (.cells ⟨cs⟩ et (cs.length, cs.length + 1))) G cs (heap_alloc_new w.drew _) htk hcl hge (by simp) ((Ext.drew w).trans (Ext.alloc _ _)))
  have hv := hx.val (ds := X.ds) hf rfl
  simp only [execOp, hv]
  have : S s = .string ⟨⟨s⟩⟩ := rfl
  rw [this]
  simp only [Sem.run_bind, hr, Result.andThen_ok, Sem.run_pure]

/-- append(b, make([]byte, n)...) -/
theorem Step.appendZB (T : Tb X.P) {x y : Operand} {t tn et : TypeId} {z : Value} {kn : IntKind} {n B b G : Nat} {cs : List Value} {s : List UInt8}
    (hg : guardE ops e ⟨some d, .call { callee := .builtin .append, args := #[x, y], argTypes := #[t, tn] }, ty, pos, af, g⟩ = some none)
    (hx : Op1 e none x (.slice (some ⟨b, 0, none⟩) s.length G)) (hy : Op1 e none y (.int .i64 n)) (ht : T.ty t = some (.slice et)) (htn : T.ty tn = some (.int kn)) (hi : T.inf et = some (z, 1, 1)) (hz : z = .int .u8 0)
    (hb : w.heap[b]? = some (.cells ⟨cs⟩ et (cs.length, cs.length + 1))) (htk : cs.take s.length = s.map U) (hcl : cs.length = G) (hsG : s.length ≤ G) (hB : B ≤ b) (h0 : 0 < n) (hbd : s.length + n ≤ 140737488355328) (hn : Nat.blt d X.n = true)
    (h : ∀ v' w', By w' v' (s ++ List.replicate n 0) → Below B w w' → N ((d, none, v') :: e) w') :
    Step X ops ⟨some d, .call { callee := .builtin .append, args := #[x, y], argTypes := #[t, tn] }, ty, pos, af, g⟩ e w N := by
  obtain ⟨ii, hi1, hi2, hi3, hi4⟩ := T.iok _ _ _ _ hi
  have hT := T.ok _ _ ht
  have hTn := T.ok _ _ htn
  subst hz
  have hbl : b < w.heap.size := (Array.getElem?_eq_some_iff.1 hb).1
  have hrl : (s ++ List.replicate n (0 : UInt8)).length = s.length + n := by simp
  have hrm : (s ++ List.replicate n (0 : UInt8)).map U = s.map U ++ List.replicate n (U 0) := by simp
  have hzl : (Builtin.zeroCells (Value.int .u8 0).cells n).toList = List.replicate n (U 0) := zeroU n
  by_cases hroom : s.length + n ≤ G
  · obtain ⟨w', hr, hw, hx'⟩ := run_storeCells_f X.P et cs.length (List.replicate n (U 0)) b s.length 0 cs w hb rfl (by simp; omega) (fun v hv => by rw [List.eq_of_mem_replicate hv]; rfl)
    simp only [Nat.add_zero, List.length_replicate] at hx'
    refine Step.eff (v := .slice (some ⟨b, 0, none⟩) (s.length + n) G) (w' := w') rfl (by simpa [Nat.blt_eq] using hn) hg (fun _ hh => by cases hh) (fun t' hf => run_builtin2 (hx.val hf rfl) (hy.val hf rfl) fun cs' => ?_) (h _ w' ?_ ?_)
    · have hk : n ≠ 0 := by omega
      have hw1 : IntKind.i64.wrap (n : Int) = n := by rw [IntKind.wrap_i64]; omega
      have h48i : ¬ (281474976710656 < (n : Int) * ((1 : Nat) : Int)) := by omega
      have hneg : ¬ ((n : Int) < 0) := by omega
      have hzl' : (Builtin.zeroCells #[Value.int .u8 0] n).toList = List.replicate n (U 0) := zeroU n
      have hrun : (Builtin.append_ #[t, tn] ty #[.slice (some ⟨b, 0, none⟩) s.length G, .int .i64 n]).run X.P w = .ok (.slice (some ⟨b, 0, none⟩) (s.length + n) G) w' := by
        have hcells : (Value.int .u8 0).cells = #[Value.int .u8 0] := rfl
        simp [Builtin.append_, run_underlying hT, run_underlying hTn, sizeOf, typeInfo, zeroValue, hi1, hi2, hi3, hi4, asInt, asIntOf, hw1, hroom, hneg, hk, h48i, Addr.add_lit, hcells, hzl', hr]
        try omega
      simp only [builtin, Sem.run_bind, hrun, Result.andThen_ok, Sem.run_pure]
    · have := by_of (l := s ++ List.replicate n (0 : UInt8)) (cap := G) hx' (by
        rw [hrl, hrm, htk, List.append_assoc, ← List.append_assoc]
        exact List.take_left' (by simp)) (by rw [hrl]; exact hroom) (by rw [hrl]; omega)
      rw [hrl] at this; exact this
    · exact (Below.refl B w).wr hw hB
  · have hold : (Builtin.firstCells ii.size s.length (.slice (some ⟨b, 0, none⟩) s.length G)).run X.P w.drew = .ok (s.map U).toArray w.drew := by
      refine run_firstCells_some w.drew ii.size s.length ⟨b, 0, none⟩ s.length G _ (by rw [hi3]; simp) (fun j u hj => ?_)
      have hjl : j < s.length := by have := (List.getElem?_eq_some_iff.1 hj).1; simpa using this
      rw [Addr.add_lit, Nat.zero_add]
      show w.cell? _ = _
      rw [Joins.cell_of_block hb j]
      have h2 : (cs.take s.length)[j]? = (s.map U)[j]? := by rw [htk]
      rw [List.getElem?_take_of_lt hjl, hj] at h2
      simpa using h2
    have hr := Lib.run_append_grow_zeros w t tn ty et ii (.int .u8 0) .i64 kn hT hTn hi1 hi2 (some ⟨b, 0, none⟩) s.length G (s.map U) hold n h0 (by rw [hi3]; omega) (by omega) (by omega)
      (by rw [hi4]; omega) (by rw [hi4]; exact growslice_fits (by omega) (by omega))
    obtain ⟨G', hG'⟩ : ∃ G', G' = grownCap w (s.length + n) G et := ⟨_, rfl⟩
    have hGe := grownCap_ge w (s.length + n) G et
    rw [← hG'] at hr hGe
    obtain ⟨cs2, hcs2⟩ : ∃ cs2, cs2 = ((s.map U).toArray ++ Builtin.zeroCells (Value.int .u8 0).cells n ++ Builtin.zeroCells (Value.int .u8 0).cells (G' - (s.length + n))).toList := ⟨_, rfl⟩
    have hrow : (s.map U).toArray ++ Builtin.zeroCells (Value.int .u8 0).cells n ++ Builtin.zeroCells (Value.int .u8 0).cells (G' - (s.length + n)) = ⟨cs2⟩ := by rw [hcs2]
    rw [hrow] at hr
    refine Step.eff (v := .slice (some ⟨w.heap.size, 0, none⟩) (s.length + n) G') (w' := w.drew.alloc (.cells ⟨cs2⟩ et)) rfl (by simpa [Nat.blt_eq] using hn) hg (fun _ hh => by cases hh) (fun t' hf => run_builtin2 (hx.val hf rfl) (hy.val hf rfl) fun cs' => ?_) (h _ _ ?_ ?_)
    · simp only [builtin, Sem.run_bind, hr, Result.andThen_ok, Sem.run_pure]
    · have := by_of (w := w.drew.alloc (.cells ⟨cs2⟩ et)) (b := w.heap.size) (l := s ++ List.replicate n (0 : UInt8)) (cap := G') (heap_alloc_new w.drew _) (by
        rw [hrl, hrm, hcs2, Array.toList_append, Array.toList_append, hzl]
        exact List.take_left' (by simp)) (by rw [hrl]; exact hGe) (by rw [hrl]; omega)
      rw [hrl] at this; exact this
    · exact ((Ext.drew w).trans (Ext.alloc _ _)).mono (by omega)
end
end Go.Vg
namespace Go.Vg
section
variable {X : Cx} {ops : Array Oper} {e : Env} {w : World} {N : Env → World → Prop} {d : Nat} {c : Option Bool} {ty : TypeId} {pos : String} {af : Array Edge} {g : Option (Nat × Bool)}
theorem Step.indexSk (T : Tb X.P) {x i : Operand} {st : TypeId} {l : List UInt8} {m : Int} {q : IntKind} (k : Nat)
    (hg : guardE ops e ⟨some d, .index st x i, ty, pos, af, g⟩ = some c)
    (hx : Op1 e c x (S l)) (hi : Op1 e c i (.int q m)) (ht : T.ty st = some .string) (hk : cv c = true → m = k ∧ k < l.length) (hn : Nat.blt d X.n = true)
    (h : N ((d, c, U (l.getD k 0)) :: e) w) : Step X ops ⟨some d, .index st x i, ty, pos, af, g⟩ e w N :=
  Step.quiet rfl (by simpa [Nat.blt_eq] using hn) hg (fun _ hh => by cases hh) (fun t hf hc => by
    obtain ⟨rfl, hlt⟩ := hk hc
    have hr := run_index_string (P := X.P) w st ⟨⟨l⟩⟩ q (k : Int) (T.ok _ _ ht)
    have hv : Act.eval ⟨t, X.ds⟩ x = .string ⟨⟨l⟩⟩ := hx.val hf hc
    have hlt' : k < (ByteArray.mk ⟨l⟩).size := hlt
    rw [dif_pos ⟨by omega, by exact_mod_cast hlt'⟩] at hr
    simp only [execOp, hv, hi.val hf hc, Sem.run_bind, hr, Result.andThen_ok, Sem.run_pure]
    have : (ByteArray.mk ⟨l⟩)[(k : Int).toNat]'(by simpa using hlt') = l.getD k 0 := by
      show l[k] = _
      simp [List.getD, hlt]
    rw [this]; rfl) h

end
end Go.Vg
namespace Go.Vg
open Go.RowKit

/-- a row made of a text: what lies behind the text's bytes may hold more -/
def Frz (w : World) (B : Nat) (v : Value) (et : Nat) (s : List UInt8) : Prop :=
  ∃ b G cs, v = .slice (some ⟨b, 0, none⟩) s.length G ∧ B ≤ b ∧ w.heap[b]? = some (.cells ⟨cs⟩ et (cs.length, cs.length + 1)) ∧ cs.take s.length = s.map U ∧ cs.length = G ∧ s.length ≤ G
/-- bytes of one's own -/
def Bwy (w : World) (B : Nat) (v : Value) (et : Nat) (s : List UInt8) : Prop := Frz w B v et s ∨ Owns w B v et 1 (bysC s)
theorem Frz.sli {w : World} {B et : Nat} {v : Value} {s : List UInt8} (h : Frz w B v et s) (hl : s.length ≤ 9223372036854775807) : By w v s := by
  obtain ⟨b, G, cs, rfl, _, hb, htk, _, hsG⟩ := h
  exact by_of hb htk hsG hl
theorem Bwy.sli {w : World} {B et : Nat} {v : Value} {s : List UInt8} (h : Bwy w B v et s) (hl : s.length ≤ 9223372036854775807) : By w v s := by
  rcases h with h | h
  · exact h.sli hl
  · exact h.sli
theorem Frz.to {w w' : World} {B et : Nat} {v : Value} {s : List UInt8} (h : Frz w B v et s) (hx : Ext w w') : Frz w' B v et s := by
  obtain ⟨b, G, cs, hv, hB, hb, hr⟩ := h
  exact ⟨b, G, cs, hv, hB, by rw [hx.block b (Array.getElem?_eq_some_iff.1 hb).1]; exact hb, hr⟩
theorem Bwy.to {w w' : World} {B et : Nat} {v : Value} {s : List UInt8} (h : Bwy w B v et s) (hx : Ext w w') : Bwy w' B v et s := by
  rcases h with h | h
  · exact .inl (h.to hx)
  · exact .inr (Owns.to h hx)
theorem Frz.mono {w : World} {B B' et : Nat} {v : Value} {s : List UInt8} (h : Frz w B v et s) (hB : B' ≤ B) : Frz w B' v et s := by
  obtain ⟨b, G, cs, hv, hb, hr⟩ := h
  exact ⟨b, G, cs, hv, Nat.le_trans hB hb, hr⟩
section
variable {X : Cx} {ops : Array Oper} {l : List Oper} {kk : List Kt} {e : Env} {w : World} {N : Env → World → Prop} {d : Nat} {c : Option Bool} {ty : TypeId} {pos : String} {af : Array Edge} {g : Option (Nat × Bool)}
theorem Step.strBytesF (T : Tb X.P) {x : Operand} {src dst et : TypeId} {s : List UInt8} (hg : guardE ops e ⟨some d, .convert src dst x, ty, pos, af, g⟩ = some none)
    (hx : Op1 e none x (S s)) (hs : T.ty src = some .string) (ht : T.ty dst = some (.slice et)) (he : T.ty et = some (.int .u8)) (hn : Nat.blt d X.n = true)
    (h : ∀ v w', Frz w' w.heap.size v et s → Ext w w' → N ((d, none, v) :: e) w') : Step X ops ⟨some d, .convert src dst x, ty, pos, af, g⟩ e w N :=
  Step.strBytes2 T hg hx hs ht he hn fun w' G cs hb htk hcl hsG _ hxx => h _ w' ⟨_, G, cs, rfl, Nat.le_refl _, hb, htk, hcl, hsG⟩ hxx
/-- a byte written over -/
theorem Step.storeF (T : Tb X.P) {x y : Operand} {t : TypeId} {v z : Value} {by_ B et j : Nat} {s : List UInt8} {u : UInt8} (hg : guardE ops e ⟨none, .store t x y, ty, pos, af, g⟩ = some none)
    (hx : Op1 e none x (padd v (j * 1))) (hy : Op1 e none y (U u)) (hi : T.inf t = some (z, 1, by_)) (ho : Frz w B v et s) (hj : j < s.length)
    (h : ∀ w', Frz w' B v et (s.set j u) → Below B w w' → N e w') : Step X ops ⟨none, .store t x y, ty, pos, af, g⟩ e w N := by
  obtain ⟨b, G, cs, rfl, hB, hb, htk, hcl, hsG⟩ := ho
  obtain ⟨w', hrun, hw, hx'⟩ := run_storeCells_f X.P et cs.length [U u] b (j * 1) 0 cs w hb rfl (by simp; omega) (fun v hv => by simp only [List.mem_cons, List.not_mem_nil, or_false] at hv; subst hv; rfl)
  simp only [Nat.add_zero, Nat.mul_one, List.length_cons, List.length_nil, Nat.zero_add] at hx'
  have hset : cs.take j ++ [U u] ++ cs.drop (j + 1) = cs.set j (U u) := by
    rw [List.set_eq_take_append_cons_drop, if_pos (by omega)]; simp
  rw [hset] at hx'
  refine Step.effNone rfl hg (fun _ hh => by cases hh) (w' := w') (fun t' hf => ?_) (h w' ⟨b, G, cs.set j (U u), by rw [List.length_set], hB, by rw [List.length_set]; exact hx', ?_, by rw [List.length_set]; exact hcl, by rw [List.length_set]; exact hsG⟩ ((Below.refl B w).wr hw hB))
  · have hp : padd (Value.slice (some ⟨b, 0, none⟩) s.length G) (j * 1) = .pointer (some ⟨b, j * 1, none⟩) := by simp [padd, Addr.add_lit]
    have hv : (U u).cells = ⟨[U u]⟩ := rfl
    have hsz' : ¬ ((⟨[U u]⟩ : Array Value).size ≠ 1) := by simp
    simp only [execOp, hx.val hf rfl, hy.val hf rfl, hp, Instr.storeAt, Instr.sureAddr, storeVar, Sem.run_bind, Sem.run_pure, Result.andThen_ok, run_sizeOf hi, hv, if_neg hsz', hrun]
  · rw [List.length_set, List.take_set, htk, List.map_set]
/-- a byte behind them -/
theorem Step.appendF (T : Tb X.P) {x y : Operand} {t et : TypeId} {v u z : Value} {B : Nat} {s : List UInt8} {q : UInt8}
    (hg : guardE ops e ⟨some d, .call { callee := .builtin .append, args := #[x, y], argTypes := #[t, t] }, ty, pos, af, g⟩ = some none)
    (hx : Op1 e none x v) (hy : Op1 e none y u) (ht : T.ty t = some (.slice et)) (hi : T.inf et = some (z, 1, 1)) (hz : z.cells.size = 1)
    (hv : Bwy w B v et s) (hu : By w u [q]) (hl : s.length + 1 ≤ 140737488355328) (hB : B ≤ w.heap.size) (hn : Nat.blt d X.n = true)
    (h : ∀ v' w', Bwy w' B v' et (s ++ [q]) → Below B w w' → N ((d, none, v') :: e) w') :
    Step X ops ⟨some d, .call { callee := .builtin .append, args := #[x, y], argTypes := #[t, t] }, ty, pos, af, g⟩ e w N := by
  rcases hv with hv | hv
  · obtain ⟨i, hi1, hi2, hi3, hi4⟩ := T.iok _ _ _ _ hi
    have hT := T.ok _ _ ht
    obtain ⟨b, G, cs, rfl, hBb, hb, htk, hcl, hsG⟩ := hv
    have hbl : b < w.heap.size := (Array.getElem?_eq_some_iff.1 hb).1
    rcases hu with ⟨_, hnil⟩ | ⟨a, cap, rfl, hs, hc, hyl, hcell, hyb⟩
    · simp [bysC] at hnil
    · have hcell0 : ∀ j v, [U q][j]? = some v → w.cell? (a.add j) = some v := by
        intro j v hj
        have hj0 : j = 0 := by have := (List.getElem?_eq_some_iff.1 hj).1; simp at this; exact this
        subst hj0
        cases hj
        exact hcell 0 [U q] rfl 0 (U q) rfl
      have hone : ∀ v ∈ [U q], v.oneCell' = true := fun v hv => by simp only [List.mem_cons, List.not_mem_nil, or_false] at hv; subst hv; rfl
      have hy1 : Op1 e none y (.slice (some a) 1 cap) := hy
      by_cases hroom : s.length + 1 ≤ G
      · obtain ⟨w', hr, hw, hx'⟩ := run_storeCells_f X.P et cs.length [U q] b s.length 0 cs w hb rfl (by simp; omega) hone
        simp only [Nat.add_zero, List.length_cons, List.length_nil, Nat.zero_add] at hx'
        have hset : cs.take s.length ++ [U q] ++ cs.drop (s.length + 1) = cs.set s.length (U q) := by
          rw [List.set_eq_take_append_cons_drop, if_pos (by omega)]; simp
        rw [hset] at hx'
        refine Step.eff (v := .slice (some ⟨b, 0, none⟩) (s.length + 1) G) (w' := w') rfl (by simpa [Nat.blt_eq] using hn) hg (fun _ hh => by cases hh) (fun t' hf => run_builtin2 (hx.val hf rfl) (hy1.val hf rfl) fun cs' => ?_)
          (h _ w' (.inl ⟨b, G, cs.set s.length (U q), by rw [List.length_append]; rfl, hBb, by rw [List.length_set]; exact hx', ?_, by rw [List.length_set]; exact hcl, by rw [List.length_append]; exact hroom⟩) ((Below.refl B w).wr hw hBb))
        · have hf := run_firstCells_some (P := X.P) w i.size 1 a 1 cap [U q] (by rw [hi3]; rfl) hcell0
          have hrun : (Builtin.append_ #[t, t] ty #[.slice (some ⟨b, 0, none⟩) s.length G, .slice (some a) 1 cap]).run X.P w = .ok (.slice (some ⟨b, 0, none⟩) (s.length + 1) G) w' := by
            simp [Builtin.append_, run_underlying hT, sizeOf, typeInfo, hi1, Builtin.lenOf, hroom, hf, Addr.add_lit, hi3]
            rw [hi3] at hf
            simp [hf, hr]
          simp only [builtin, Sem.run_bind, hrun, Result.andThen_ok, Sem.run_pure]
        · rw [List.length_append, List.length_cons, List.length_nil, List.map_append]
          have hlt : s.length < cs.length := by omega
          rw [List.take_succ_eq_append_getElem (by rw [List.length_set]; exact hlt), List.take_set_of_le (Nat.le_refl _), htk, List.getElem_set_self]; rfl
      · have holds : ∀ j v, (s.map U)[j]? = some v → w.cell? ((⟨b, 0, none⟩ : Addr).add j) = some v := by
          intro j v hj
          have hjl : j < s.length := by have := (List.getElem?_eq_some_iff.1 hj).1; simpa using this
          rw [Addr.add_lit, Nat.zero_add, Joins.cell_of_block hb j]
          have h2 : (cs.take s.length)[j]? = (s.map U)[j]? := by rw [htk]
          rw [List.getElem?_take_of_lt hjl, hj] at h2
          simpa using h2
        have hr := run_append_grow (P := X.P) w t ty et i z hT hi1 hi2 ⟨b, 0, none⟩ s.length G (s.map U) (by rw [hi3]; simp) holds a 1 cap [U q] (by rw [hi3]; rfl) hcell0 (by omega) (by omega) (by rw [hi4]; exact growslice_fits (by omega) (by omega))
        obtain ⟨G', hG'⟩ : ∃ G', G' = grownCap w (s.length + 1) G et := ⟨_, rfl⟩
        have hGe := grownCap_ge w (s.length + 1) G et
        have hGm := grownCap_le_maxLen w (s.length + 1) G et (by unfold maxLen; omega)
        rw [← hG'] at hr hGe hGm
        obtain ⟨cs2, hcs2⟩ : ∃ cs2, cs2 = ((s.map U).toArray ++ [U q].toArray ++ Builtin.zeroCells z.cells (G' - (s.length + 1))).toList := ⟨_, rfl⟩
        have hrow : (s.map U).toArray ++ [U q].toArray ++ Builtin.zeroCells z.cells (G' - (s.length + 1)) = ⟨cs2⟩ := by rw [hcs2]
        have hcl2 : cs2.length = G' := by
          rw [hcs2, Array.length_toList]
          simp only [Array.size_append, List.size_toArray, size_zeroCells, hz, List.length_map, List.length_cons, List.length_nil]
          omega
        have htk2 : cs2.take (s.length + 1) = (s ++ [q]).map U := by
          rw [hcs2, Array.toList_append, Array.toList_append, List.map_append]
          exact List.take_left' (by simp)
        rw [hrow] at hr
        refine Step.eff (v := .slice (some ⟨w.heap.size, 0, none⟩) (s.length + 1) G') (w' := w.drew.alloc (.cells ⟨cs2⟩ et)) rfl (by simpa [Nat.blt_eq] using hn) hg (fun _ hh => by cases hh) (fun t' hf => run_builtin2 (hx.val hf rfl) (hy1.val hf rfl) fun cs' => ?_) (h _ _ (.inr ?_) (((Ext.drew w).trans (Ext.alloc _ _)).mono hB))
        · simp only [builtin, Sem.run_bind, hr, Result.andThen_ok, Sem.run_pure]
        · have hbl2 : (bysC (s ++ [q])).length = s.length + 1 := by rw [bysC_len, List.length_append]; rfl
          refine ⟨⟨?_, .inr ⟨w.heap.size, G', ⟨cs2⟩, by rw [hbl2], hB, heap_alloc_new w.drew _, by rw [hbl2]; exact hGe, hGm, ?_, ?_⟩⟩, bysC_k _, by rw [hbl2]; exact hl⟩
          · rw [bysC_flat, bysC_len, List.length_map, Nat.mul_one]
          · show cs2.length = G' * 1
            rw [hcl2, Nat.mul_one]
          · show cs2.take _ = _
            rw [hbl2, Nat.mul_one, bysC_flat, htk2]
  · refine Step.append T hg hx hy ht hi (by rfl) hz hv hu (bysC_one _) (by rw [bysC_len, bysC_len, List.length_cons, List.length_nil]; omega) (by rw [bysC_len, bysC_len, List.length_cons, List.length_nil]; omega) hB hn (fun v' w' ho hgr => h v' w' (.inr ?_) (hgr.below _ (Below.refl _ _)))
    rw [bysC_app]; exact ho
end
end Go.Vg
namespace Go.Vg
open Go.RowKit

/-- a float of 64 bits -/
abbrev Fl (b : Nat) : Value := .float .f64 b
/-- how two floats stand to each other, tested -/
def fcmpB (op : BinOp) (x y : Nat) : Option Bool := match op with
  | .eql => some (FloatKind.f64.format.order x y == some .eq)
  | .neq => some (FloatKind.f64.format.order x y != some .eq)
  | .lss => some (FloatKind.f64.format.order x y == some .lt)
  | .leq => some (FloatKind.f64.format.order x y == some .lt || FloatKind.f64.format.order x y == some .eq)
  | .gtr => some (FloatKind.f64.format.order x y == some .gt)
  | .geq => some (FloatKind.f64.format.order x y == some .gt || FloatKind.f64.format.order x y == some .eq)
  | _ => none
section
variable {X : Cx} {ops : Array Oper} {l : List Oper} {k : List Kt} {e : Env} {w : World} {N : Env → World → Prop} {d : Nat} {c : Option Bool} {ty : TypeId} {pos : String} {af : Array Edge} {g : Option (Nat × Bool)}
theorem Step.flt {op : BinOp} {xt yt : TypeId} {x y : Operand} {a b r : Nat} (hg : guardE ops e ⟨some d, .binOp op xt x y yt, ty, pos, af, g⟩ = some c)
    (hx : Op1 e c x (Fl a)) (hy : Op1 e c y (Fl b)) (hr : floatBits op .f64 a b = some r) (hn : Nat.blt d X.n = true)
    (h : N ((d, c, Fl r) :: e) w) : Step X ops ⟨some d, .binOp op xt x y yt, ty, pos, af, g⟩ e w N :=
  Step.quiet rfl (by simpa [Nat.blt_eq] using hn) hg (fun _ hh => by cases hh) (fun t hf hc => by
    have hr' := run_float_arith (P := X.P) w op xt .f64 a b r hr
    have hq : (eqGuard op xt x y (Fl a) (Fl b)).run X.P w = .ok () w := by
      unfold floatBits at hr
      cases op <;> simp only at hr <;> first | (cases hr; done) | rfl
    simp only [execOp, hx.val hf hc, hy.val hf hc, Sem.run_bind, hq, Result.andThen_ok, hr', Sem.run_pure]) h
theorem Step.fcmp {op : BinOp} {xt yt : TypeId} {x y : Operand} {a b : Nat} {r : Bool} (hg : guardE ops e ⟨some d, .binOp op xt x y yt, ty, pos, af, g⟩ = some c)
    (hx : Op1 e c x (Fl a)) (hy : Op1 e c y (Fl b)) (hr : fcmpB op a b = some r) (hn : Nat.blt d X.n = true)
    (h : N ((d, c, .bool r) :: e) w) : Step X ops ⟨some d, .binOp op xt x y yt, ty, pos, af, g⟩ e w N :=
  Step.quiet rfl (by simpa [Nat.blt_eq] using hn) hg (fun _ hh => by cases hh) (fun t hf hc => by
    simp only [execOp, hx.val hf hc, hy.val hf hc]
    unfold fcmpB at hr
    cases op <;> simp only at hr <;> first | (cases hr; done) | (cases hr; simp [go_sem]; done) | (cases hr; simp [go_sem]; rfl)) h
theorem Step.i2f (T : Tb X.P) {x : Operand} {src dst : TypeId} {q : IntKind} {m : Int} {r : Nat} {sd : TypeDesc} (hg : guardE ops e ⟨some d, .convert src dst x, ty, pos, af, g⟩ = some c)
    (hx : Op1 e c x (.int q m)) (hs : T.ty src = some sd) (ht : T.ty dst = some (.float .f64)) (hr : floatOfInt .f64 m = r) (hn : Nat.blt d X.n = true)
    (h : N ((d, c, Fl r) :: e) w) : Step X ops ⟨some d, .convert src dst x, ty, pos, af, g⟩ e w N :=
  Step.quiet rfl (by simpa [Nat.blt_eq] using hn) hg (fun _ hh => by cases hh) (fun t hf hc => by
    have := run_convert_int_float (P := X.P) w src dst q .f64 m (by simp [T.ok _ _ hs]) (T.ok _ _ ht)
    rw [hr] at this
    simp only [execOp, hx.val hf hc, Sem.run_bind, this, Result.andThen_ok, Sem.run_pure]) h
theorem Step.f2i (T : Tb X.P) {x : Operand} {src dst : TypeId} {q : IntKind} {m : Int} {b : Nat} {sd : TypeDesc} (hg : guardE ops e ⟨some d, .convert src dst x, ty, pos, af, g⟩ = some c)
    (hx : Op1 e c x (Fl b)) (hs : T.ty src = some sd) (ht : T.ty dst = some (.int q)) (hr : floatToIntVal .f64 b q = some m) (hn : Nat.blt d X.n = true)
    (h : N ((d, c, .int q m) :: e) w) : Step X ops ⟨some d, .convert src dst x, ty, pos, af, g⟩ e w N :=
  Step.quiet rfl (by simpa [Nat.blt_eq] using hn) hg (fun _ hh => by cases hh) (fun t hf hc => by
    have := run_convert_float_int (P := X.P) w src dst .f64 q b m (by simp [T.ok _ _ hs]) (T.ok _ _ ht) hr
    simp only [execOp, hx.val hf hc, Sem.run_bind, this, Result.andThen_ok, Sem.run_pure]) h
theorem Step.f2f (T : Tb X.P) {x : Operand} {src dst : TypeId} {b r : Nat} {sd : TypeDesc} (hg : guardE ops e ⟨some d, .convert src dst x, ty, pos, af, g⟩ = some c)
    (hx : Op1 e c x (Fl b)) (hs : T.ty src = some sd) (ht : T.ty dst = some (.float .f64)) (hr : floatToFloatBits .f64 b .f64 = some r) (hn : Nat.blt d X.n = true)
    (h : N ((d, c, Fl r) :: e) w) : Step X ops ⟨some d, .convert src dst x, ty, pos, af, g⟩ e w N :=
  Step.quiet rfl (by simpa [Nat.blt_eq] using hn) hg (fun _ hh => by cases hh) (fun t hf hc => by
    have := run_convert_float_float (P := X.P) w src dst .f64 .f64 b r (by simp [T.ok _ _ hs]) (T.ok _ _ ht) hr
    simp only [execOp, hx.val hf hc, Sem.run_bind, this, Result.andThen_ok, Sem.run_pure]) h
/-- a call that the model answers by itself -/
theorem Step.ext {f : FuncId} {args : Array Operand} {ats : Array TypeId} {lo : List Operand} {vs : List Value} {v : Value}
    (hg : guardE ops e ⟨some d, .call { callee := .value (.func f), args := args, argTypes := ats }, ty, pos, af, g⟩ = some c)
    (ha : args = ⟨lo⟩) (hvs : OpL e c lo vs) (hr : (callFunc f ⟨vs⟩).run X.P w = .ok (.value v) w) (hn : Nat.blt d X.n = true)
    (h : N ((d, c, v) :: e) w) : Step X ops ⟨some d, .call { callee := .value (.func f), args := args, argTypes := ats }, ty, pos, af, g⟩ e w N :=
  Step.quiet rfl (by simpa [Nat.blt_eq] using hn) hg (fun _ hh => by cases hh) (fun t hf hc => by
    have := hvs.map (ds := X.ds) hf hc
    subst ha
    have h2 : (Array.mk lo).map (Act.mk t X.ds).eval = ⟨vs⟩ := by simp [this]
    simp only [execOp, resolve, h2, Act.eval, Deferred.ofValue, Sem.run_bind, Sem.run_pure, Result.andThen_ok, invoke, Array.empty_append, Array.append_empty, hr]) h
/-- the bits of a float, and back -/
theorem run_fbits {P : Program} {f : FuncId} {fn : Func} (hf : P.funcs[f]? = some fn) (hname : (fn.name == "runtime.NumGoroutine") = false) (hb : fn.body.isNone = true) (hn : Extern.findNext fn = none) (he : Extern.find fn = some Extern.MathFloatBits.float64bits) (b : Nat) (w : World) :
    (callFunc f #[Fl b]).run P w = .ok (.value (.int .u64 b)) w := by
  rw [run_callFunc_extern hf hname hb hn he]; rfl
theorem run_ofbits {P : Program} {f : FuncId} {fn : Func} (hf : P.funcs[f]? = some fn) (hname : (fn.name == "runtime.NumGoroutine") = false) (hb : fn.body.isNone = true) (hn : Extern.findNext fn = none) (he : Extern.find fn = some Extern.MathFloatBits.float64frombits) (b : Nat) (w : World) :
    (callFunc f #[.int .u64 b]).run P w = .ok (.value (Fl b)) w := by
  rw [run_callFunc_extern hf hname hb hn he]; rfl
/-- math.Floor's own -/
theorem run_afloor {P : Program} {f : FuncId} {fn : Func} {op : Array Value → Sem Value} (hf : P.funcs[f]? = some fn) (hname : (fn.name == "runtime.NumGoroutine") = false) (hb : fn.body.isNone = true) (hn : Extern.findNext fn = none) (he : Extern.find fn = some op) (b r : Nat) (w : World)
    (h : (op #[Fl b]).run P w = .ok (Fl r) w) : (callFunc f #[Fl b]).run P w = .ok (.value (Fl r)) w := by
  rw [run_callFunc_extern hf hname hb hn he, h]; rfl
end
end Go.Vg
namespace Go.Vg
open Go.RowKit
theorem results_four {fn : Func} {s1 s2 s3 s4 : Tmp} (h : fn.results = #[.tmp s1, .tmp s2, .tmp s3, .tmp s4]) (tmps : Array Value) (P : Program) (w : World) :
    (results fn tmps).run P w = .ok (.tuple #[tmps.getD s1 undef, tmps.getD s2 undef, tmps.getD s3 undef, tmps.getD s4 undef]) w := by
  simp [results, h]
theorem G.ret4 {X : Cx} {k : List Kt} {e : Env} {w : World} {P : Program} {fn : Func} {R : Value → World → Prop} (hX : X.fin = retFin P fn R) (hd : X.ds = []) {s1 s2 s3 s4 : Nat} {v1 v2 v3 v4 : Value}
    (hr : fn.results = #[.tmp s1, .tmp s2, .tmp s3, .tmp s4]) (h1 : look e s1 = some (none, v1)) (h2 : look e s2 = some (none, v2)) (h3 : look e s3 = some (none, v3)) (h4 : look e s4 = some (none, v4)) (h : R (.tuple ⟨[v1, v2, v3, v4]⟩) w) : G X (.code .ret :: k) e w := by
  refine G.ret fun t ht => ?_
  rw [hX, hd]
  refine ⟨rfl, _, ?_, _, rfl, h⟩
  rw [results_four hr, (ht.get _ _ _ h1).2, (ht.get _ _ _ h2).2, (ht.get _ _ _ h3).2, (ht.get _ _ _ h4).2]
  rfl
end Go.Vg
namespace Go.Vg
open Go.RowKit
section
variable {X : Cx} {ops : Array Oper} {l : List Oper} {k : List Kt} {e : Env} {w : World} {N : Env → World → Prop} {d : Nat} {c : Option Bool} {ty : TypeId} {pos : String} {af : Array Edge} {g : Option (Nat × Bool)}
theorem Step.eqSN (T : Tb X.P) {xt yt et : TypeId} {x y : Operand} {a : Addr} {n cap : Nat} (hg : guardE ops e ⟨some d, .binOp .eql xt x y yt, ty, pos, af, g⟩ = some c)
    (hx : Op1 e c x (.slice (some a) n cap)) (hy : Op1 e c y (.slice none 0 0)) (ht : T.ty xt = some (.slice et)) (hn : Nat.blt d X.n = true)
    (h : N ((d, c, .bool false) :: e) w) : Step X ops ⟨some d, .binOp .eql xt x y yt, ty, pos, af, g⟩ e w N :=
  Step.quiet rfl (by simpa [Nat.blt_eq] using hn) hg (fun _ hh => by cases hh) (fun t hf hc => by
    have hT := T.ok _ _ ht
    have h1 : (eqGuard .eql xt x y (.slice (some a) n cap) (.slice none 0 0)).run X.P w = .ok () w := by simp [eqGuard]
    have he := run_equal_slice_nil (P := X.P) w xt et (some a) n cap hT
    have h2 : (binOp .eql xt (.slice (some a) n cap) (.slice none 0 0)).run X.P w = .ok (.bool false) w := by
      simp only [binOp, Sem.run_bind, he, Sem.run_map, Result.andThen_ok, Sem.run_pure]; rfl
    simp only [execOp, hx.val hf hc, hy.val hf hc, Sem.run_bind, h1, h2, Result.andThen_ok, Sem.run_pure]) h
end
end Go.Vg
namespace Go.Vg
open Go.RowKit
section
variable {X : Cx} {ops : Array Oper} {l : List Oper} {k : List Kt} {e : Env} {w : World} {N : Env → World → Prop} {d : Nat} {c : Option Bool} {ty : TypeId} {pos : String} {af : Array Edge} {g : Option (Nat × Bool)}
theorem Step.min2 {x y : Operand} {t1 t2 : TypeId} {q : IntKind} {a b : Int} (hg : guardE ops e ⟨some d, .call { callee := .builtin .min, args := #[x, y], argTypes := #[t1, t2] }, ty, pos, af, g⟩ = some none)
    (hx : Op1 e none x (.int q a)) (hy : Op1 e none y (.int q b)) (hn : Nat.blt d X.n = true)
    (h : N ((d, none, .int q (if b < a then b else a)) :: e) w) : Step X ops ⟨some d, .call { callee := .builtin .min, args := #[x, y], argTypes := #[t1, t2] }, ty, pos, af, g⟩ e w N :=
  Step.eff rfl (by simpa [Nat.blt_eq] using hn) hg (fun _ hh => by cases hh) (fun t' hf => run_builtin2 (hx.val hf rfl) (hy.val hf rfl) fun cs => by
    simp [builtin, Builtin.min_, Builtin.min2]) h
end
end Go.Vg
namespace Go.Vg
open Go.RowKit

/-- it returns, and S holds; or it panics, and Z holds -/
def RetP (P : Program) (f : FuncId) (args : Array Value) (w : World) (S : Value → World → Prop) (Z : List PanicEntry → World → Prop) : Prop :=
  Calls P f args w fun en w' => (∃ v, en = .returned v ∧ S v w') ∨ (∃ ch, en = .panicked ch ∧ Z ch w')
theorem Ret.toP {P : Program} {f : FuncId} {args : Array Value} {w : World} {S : Value → World → Prop} {Z : List PanicEntry → World → Prop} (h : Ret P f args w S) : RetP P f args w S Z :=
  Calls.mono h fun _ _ ⟨v, he, hv⟩ => .inl ⟨v, he, hv⟩
theorem RetP.mono {P : Program} {f : FuncId} {args : Array Value} {w : World} {S S' : Value → World → Prop} {Z Z' : List PanicEntry → World → Prop} (h : RetP P f args w S Z) (hs : ∀ v w', S v w' → S' v w') (hz : ∀ c w', Z c w' → Z' c w') : RetP P f args w S' Z' :=
  Calls.mono h fun _ _ h => h.elim (fun ⟨v, he, hv⟩ => .inl ⟨v, he, hs _ _ hv⟩) (fun ⟨c, he, hv⟩ => .inr ⟨c, he, hz _ _ hv⟩)

def retFinP (P : Program) (fn : Func) (S : Value → World → Prop) (Z : List PanicEntry → World → Prop) : Exit → Act → World → Prop :=
  bodyPost P fn fun en w' => (∃ v, en = .returned v ∧ S v w') ∨ (∃ ch, en = .panicked ch ∧ Z ch w')

theorem fits_start {vs : List Value} {n m : Nat} (hn : m = n) (hsz : vs.length ≤ n) : Fits n (argEnv 0 vs) ((⟨vs⟩ : Array Value) ++ Array.replicate (m - (⟨vs⟩ : Array Value).size) undef) := by
  refine fits_args vs [] 0 rfl (by omega) _ (by simp [hn]; omega) (fun i hi => ?_)
  have hi' : i < vs.length := by omega
  simp [Array.getD_eq_getD_getElem?, List.getD, Array.getElem?_append, hi']
theorem ret_of_GP {P : Program} {f : FuncId} {fn : Func} {c : Code} {vs : List Value} {w : World} {S : Value → World → Prop} {Z : List PanicEntry → World → Prop} {n : Nat}
    (hf : P.funcs[f]? = some fn) (hb : fn.body = some c) (hn : fn.ntmps = n) (hl : Nat.ble vs.length n = true)
    (h : G ⟨none, P, retFinP P fn S Z, n, []⟩ [.code c] (argEnv 0 vs) w) : RetP P f ⟨vs⟩ w S Z := by
  refine calls_of_wp hf hb ?_
  have h1 := h _ (fits_start hn (by simpa using hl))
  refine wpIn_wide (n := 0) |>.1 ?_
  refine wpIn_mono h1 ?_
  intro ex a w' hq
  cases ex <;> exact hq
theorem px_P {X : Cx} {P : Program} {fn : Func} {S : Value → World → Prop} {Z : List PanicEntry → World → Prop} {ch : List PanicEntry} {w : World} (hX : X.fin = retFinP P fn S Z) (hd : X.ds = []) (h : Z ch w) : X.px ch w := by
  intro t
  rw [hX, hd]
  exact ⟨rfl, .inr ⟨ch, rfl, h⟩⟩

/-- the results, read off the slots -/
theorem res0 {P : Program} {fn : Func} {t : Array Value} (hr : fn.results = #[]) (w : World) : (results fn t).run P w = .ok (.tuple #[]) w := results_none hr _ _ _
theorem res2 {P : Program} {fn : Func} {n : Nat} {e : Env} {t : Array Value} (hf : Fits n e t) {s s' : Nat} {v v' : Value} (hr : fn.results = #[.tmp s, .tmp s']) (hv : look e s = some (none, v)) (hv' : look e s' = some (none, v')) (w : World) :
    (results fn t).run P w = .ok (.tuple ⟨[v, v']⟩) w := by
  rw [results_tmp2 hr, (hf.get _ _ _ hv).2, (hf.get _ _ _ hv').2]; rfl
theorem G.retP {X : Cx} {k : List Kt} {e : Env} {w : World} {P : Program} {fn : Func} {S : Value → World → Prop} {Z : List PanicEntry → World → Prop} (hX : X.fin = retFinP P fn S Z) (hd : X.ds = [])
    (v : Value) (hr : ∀ t, Fits X.n e t → (results fn t).run P w = .ok v w) (h : S v w) : G X (.code .ret :: k) e w := by
  refine G.ret fun t ht => ?_
  rw [hX, hd]
  exact ⟨rfl, v, hr t ht, .inl ⟨v, rfl, h⟩⟩
theorem G.retP1 {X : Cx} {k : List Kt} {e : Env} {w : World} {P : Program} {fn : Func} {S : Value → World → Prop} {Z : List PanicEntry → World → Prop} (hX : X.fin = retFinP P fn S Z) (hd : X.ds = []) {s : Nat} {v : Value}
    (hr : fn.results = #[.tmp s]) (hv : look e s = some (none, v)) (h : S v w) : G X (.code .ret :: k) e w := G.retP hX hd v (fun _ ht => res1 ht hr hv w) h
theorem G.retP2 {X : Cx} {k : List Kt} {e : Env} {w : World} {P : Program} {fn : Func} {S : Value → World → Prop} {Z : List PanicEntry → World → Prop} (hX : X.fin = retFinP P fn S Z) (hd : X.ds = []) {s s' : Nat} {v v' : Value}
    (hr : fn.results = #[.tmp s, .tmp s']) (hv : look e s = some (none, v)) (hv' : look e s' = some (none, v')) (h : S (.tuple ⟨[v, v']⟩) w) : G X (.code .ret :: k) e w := G.retP hX hd _ (fun _ ht => res2 ht hr hv hv' w) h
theorem G.retP0 {X : Cx} {k : List Kt} {e : Env} {w : World} {P : Program} {fn : Func} {S : Value → World → Prop} {Z : List PanicEntry → World → Prop} (hX : X.fin = retFinP P fn S Z) (hd : X.ds = [])
    (hr : fn.results = #[]) (h : S (.tuple #[]) w) : G X (.code .ret :: k) e w := G.retP hX hd _ (fun _ _ => res0 hr w) h
theorem G.endP0 {X : Cx} {e : Env} {w : World} {P : Program} {fn : Func} {S : Value → World → Prop} {Z : List PanicEntry → World → Prop} (hX : X.fin = retFinP P fn S Z) (hd : X.ds = [])
    (hr : fn.results = #[]) (h : S (.tuple #[]) w) : G X [] e w := by
  refine G.nil fun t _ => ?_
  rw [hX, hd]
  exact ⟨rfl, _, res0 hr w, .inl ⟨_, rfl, h⟩⟩

section steps
variable {X : Cx} {ops : Array Oper} {e : Env} {w : World} {N : Env → World → Prop} {d : Nat} {c : Option Bool} {ty : TypeId} {pos : String} {af : Array Edge} {g : Option (Nat × Bool)} {l : List Oper} {k : List Kt} {lb : List (Oper × Bool)} {W : World → Prop}

theorem GL.consP {o : Oper} (h : StepP X ops o e w (fun e' w' => GL X ops l k e' w')) : GL X ops (o :: l) k e w := by
  intro t hf
  exact h t _ _ hf (fun e' w' t' hN hf' => hN t' hf') (fun ch t' w' hp => post_panic (hp t'))

theorem StepP.callF {f : FuncId} {args : Array Operand} {ats : Array TypeId} {lo : List Operand} {vs : List Value} {S : Value → World → Prop} {Z : List PanicEntry → World → Prop}
    (hg : guardE ops e ⟨some d, .call { callee := .value (.func f), args := args, argTypes := ats }, ty, pos, af, g⟩ = some none)
    (ha : args = ⟨lo⟩) (hvs : evs e lo = some vs) (hf : Callable X.P f)
    (hn : Nat.blt d X.n = true) (hc : RetP X.P f ⟨vs⟩ w S Z) (hz : ∀ ch w', Z ch w' → X.px ch w')
    (h : ∀ v w', S v w' → N ((d, none, v) :: e) w') : StepP X ops ⟨some d, .call { callee := .value (.func f), args := args, argTypes := ats }, ty, pos, af, g⟩ e w N := by
  intro t K Q hft hK hP
  rw [guardE_wanted hft hg, if_pos (by rfl)]
  refine ⟨fun _ _ => trivial, ?_⟩
  rw [Oper.semAt_eq _ _ _ (fun _ hh => by cases hh)]
  have := evs_map (ds := X.ds) hft hvs
  subst ha
  have h2 : (Array.mk lo).map (Act.mk t X.ds).eval = ⟨vs⟩ := by simp [this]
  have hrun : (execOp (Act.mk t X.ds).eval ⟨some d, .call { callee := .value (.func f), args := ⟨lo⟩, argTypes := ats }, ty, pos, af, g⟩).run X.P w = .ok (.enter f ⟨vs⟩) w := by
    simp only [execOp, resolve, h2, Act.eval, Deferred.ofValue, Sem.run_bind, Sem.run_pure, Result.andThen_ok, invoke, Array.empty_append, Array.append_empty, run_callFunc hf]
  show Oper.uponIn _ _ _ _ _ _ _ ((execOp (Act.mk t X.ds).eval _).run X.P w)
  rw [hrun]
  refine ⟨fun h => by simp [Fence.wide] at h, callsW (Calls.mono hc ?_)⟩
  rintro en w' (⟨v, rfl, hS⟩ | ⟨ch, rfl, hZ⟩)
  · show K (Act.put _ (some d) v) w'
    exact hK _ _ _ (h v w' hS) (hft.put (by simpa [Nat.blt_eq] using hn) none v)
  · exact hP ch t w' (hz ch w' hZ)
theorem StepP.callF0 {f : FuncId} {args : Array Operand} {ats : Array TypeId} {lo : List Operand} {vs : List Value} {S : Value → World → Prop} {Z : List PanicEntry → World → Prop}
    (hg : guardE ops e ⟨none, .call { callee := .value (.func f), args := args, argTypes := ats }, ty, pos, af, g⟩ = some none)
    (ha : args = ⟨lo⟩) (hvs : evs e lo = some vs) (hf : Callable X.P f)
    (hc : RetP X.P f ⟨vs⟩ w S Z) (hz : ∀ ch w', Z ch w' → X.px ch w')
    (h : ∀ v w', S v w' → N e w') : StepP X ops ⟨none, .call { callee := .value (.func f), args := args, argTypes := ats }, ty, pos, af, g⟩ e w N := by
  intro t K Q hft hK hP
  rw [guardE_wanted hft hg, if_pos (by rfl)]
  refine ⟨fun _ _ => trivial, ?_⟩
  rw [Oper.semAt_eq _ _ _ (fun _ hh => by cases hh)]
  have := evs_map (ds := X.ds) hft hvs
  subst ha
  have h2 : (Array.mk lo).map (Act.mk t X.ds).eval = ⟨vs⟩ := by simp [this]
  have hrun : (execOp (Act.mk t X.ds).eval ⟨none, .call { callee := .value (.func f), args := ⟨lo⟩, argTypes := ats }, ty, pos, af, g⟩).run X.P w = .ok (.enter f ⟨vs⟩) w := by
    simp only [execOp, resolve, h2, Act.eval, Deferred.ofValue, Sem.run_bind, Sem.run_pure, Result.andThen_ok, invoke, Array.empty_append, Array.append_empty, run_callFunc hf]
  show Oper.uponIn _ _ _ _ _ _ _ ((execOp (Act.mk t X.ds).eval _).run X.P w)
  rw [hrun]
  refine ⟨fun h => by simp [Fence.wide] at h, callsW (Calls.mono hc ?_)⟩
  rintro en w' (⟨v, rfl, hS⟩ | ⟨ch, rfl, hZ⟩)
  · exact hK _ _ _ (h v w' hS) hft
  · exact hP ch t w' (hz ch w' hZ)

def ifaceT : TypeDesc → Bool
  | .interface _ => true
  | _ => false
theorem Step.mkIface (T : Tb X.P) {x : Operand} {t : TypeId} {td : TypeDesc} {v : Value} (hg : guardE ops e ⟨some d, .makeInterface t x, ty, pos, af, g⟩ = some c) (hx : Op1 e c x v) (ht : T.ty t = some td) (hi : ifaceT td = false)
    (hn : Nat.blt d X.n = true) (h : N ((d, c, .iface t v) :: e) w) : Step X ops ⟨some d, .makeInterface t x, ty, pos, af, g⟩ e w N :=
  Step.quiet rfl (by simpa [Nat.blt_eq] using hn) hg (fun _ hh => by cases hh) (fun t' hf hc => by
    have hT := T.ok _ _ ht
    simp only [execOp, hx.val hf hc, Instr.makeInterface, Sem.run_bind, run_underlying hT, Result.andThen_ok]
    cases td <;> first | (cases hi; done) | rfl) h
theorem StepP.panic {x : Operand} {t : TypeId} {v : Value} (hg : guardE ops e ⟨none, .panic x, ty, pos, af, g⟩ = some none) (hx : Op1 e none x (.iface t v))
    (hz : X.px [{ v := .iface t v, recovered := false }] w) : StepP X ops ⟨none, .panic x, ty, pos, af, g⟩ e w N := by
  intro t' K Q hft hK hP
  rw [guardE_wanted hft hg, if_pos (by rfl)]
  refine ⟨fun _ _ => trivial, ?_⟩
  rw [Oper.semAt_eq _ _ _ (fun _ hh => by cases hh)]
  have hrun : (execOp (Act.mk t' X.ds).eval ⟨none, .panic x, ty, pos, af, g⟩).run X.P w = .halt (.panic (.iface t v)) w := by
    simp only [execOp, hx.val hft rfl, Instr.panic]
    rfl
  show Oper.uponIn _ _ _ _ _ _ _ ((execOp (Act.mk t' X.ds).eval _).run X.P w)
  rw [hrun]
  exact hP _ t' w hz
theorem sIf (T : Tb X.P) {x : Operand} {t : TypeId} {td : TypeDesc} {v : Value} (h : GL X ops l k ((d, c, .iface t v) :: e) w) (hg : guardE ops e ⟨some d, .makeInterface t x, ty, pos, af, g⟩ = some c := by exact rfl)
    (hx : Op1 e c x v := by exact Op1.of rfl (fun _ => rfl)) (ht : T.ty t = some td := by exact rfl) (hi : ifaceT td = false := by exact rfl) (hn : Nat.blt d X.n = true := by exact rfl) :
    GL X ops (⟨some d, .makeInterface t x, ty, pos, af, g⟩ :: l) k e w := GL.cons (Step.mkIface T hg hx ht hi hn h)
theorem sPanic {x : Operand} {t : TypeId} {v : Value} (hz : X.px [{ v := .iface t v, recovered := false }] w) (hg : guardE ops e ⟨none, .panic x, ty, pos, af, g⟩ = some none := by exact rfl) (hx : Op1 e none x (.iface t v) := by exact Op1.of rfl (fun _ => rfl)) :
    GL X ops (⟨none, .panic x, ty, pos, af, g⟩ :: l) k e w := GL.consP (StepP.panic hg hx hz)

/-- a guarded call that may panic -/
theorem StepP.on {o : Oper} {c : Bool} (hg : guardE ops e o = some (some c)) (hc : c = true) (h : StepP X ops { o with guard := none } e w N) : StepP X ops o e w N := by
  intro t K Q hf hK hP
  have := h t K Q hf hK hP
  rw [guardE_wanted hf hg]
  subst hc
  rw [if_pos (by rfl)] at this ⊢
  exact this

theorem sCallP {f : FuncId} {args : Array Operand} {ats : Array TypeId} {lo : List Operand} {vs : List Value} {S : Value → World → Prop} {Z : List PanicEntry → World → Prop} (hf : Callable X.P f) (hc : RetP X.P f ⟨vs⟩ w S Z)
    (hz : ∀ ch w', Z ch w' → X.px ch w') (h : ∀ v w', S v w' → GL X ops l k ((d, none, v) :: e) w')
    (hg : guardE ops e ⟨some d, .call { callee := .value (.func f), args := args, argTypes := ats }, ty, pos, af, g⟩ = some none := by exact rfl)
    (ha : args = ⟨lo⟩ := by exact rfl) (hvs : evs e lo = some vs := by exact rfl) (hn : Nat.blt d X.n = true := by exact rfl) :
    GL X ops (⟨some d, .call { callee := .value (.func f), args := args, argTypes := ats }, ty, pos, af, g⟩ :: l) k e w := GL.consP (StepP.callF hg ha hvs hf hn hc hz h)
theorem sCallP0 {f : FuncId} {args : Array Operand} {ats : Array TypeId} {lo : List Operand} {vs : List Value} {S : Value → World → Prop} {Z : List PanicEntry → World → Prop} (hf : Callable X.P f) (hc : RetP X.P f ⟨vs⟩ w S Z)
    (hz : ∀ ch w', Z ch w' → X.px ch w') (h : ∀ v w', S v w' → GL X ops l k e w')
    (hg : guardE ops e ⟨none, .call { callee := .value (.func f), args := args, argTypes := ats }, ty, pos, af, g⟩ = some none := by exact rfl)
    (ha : args = ⟨lo⟩ := by exact rfl) (hvs : evs e lo = some vs := by exact rfl) :
    GL X ops (⟨none, .call { callee := .value (.func f), args := args, argTypes := ats }, ty, pos, af, g⟩ :: l) k e w := GL.consP (StepP.callF0 hg ha hvs hf hc hz h)
theorem dCallP {f : FuncId} {args : Array Operand} {ats : Array TypeId} {lo : List Operand} {vs : List Value} {S : Value → World → Prop} {Z : List PanicEntry → World → Prop} (hf : Callable X.P f) (hc : RetP X.P f ⟨vs⟩ w S Z)
    (hz : ∀ ch w', Z ch w' → X.px ch w') (h : ∀ v w', S v w' → W w' ∧ GMN X ops W N lb ((d, none, v) :: e) w')
    (hg : guardE ops e ⟨some d, .call { callee := .value (.func f), args := args, argTypes := ats }, ty, pos, af, g⟩ = some none := by exact rfl)
    (ha : args = ⟨lo⟩ := by exact rfl) (hvs : evs e lo = some vs := by exact rfl) (hn : Nat.blt d X.n = true := by exact rfl) :
    GMN X ops W N ((⟨some d, .call { callee := .value (.func f), args := args, argTypes := ats }, ty, pos, af, g⟩, false) :: lb) e w := GM.effP (StepP.callF hg ha hvs hf hn hc hz h)
end steps

/-! ### A world changed at one block, with more behind it -/
structure Kp (b : Nat) (w w' : World) : Prop where
  os : w'.os = w.os
  tape : w'.tape = w.tape
  output : w'.output = w.output
  size : w.heap.size ≤ w'.heap.size
  block : ∀ k, k < w.heap.size → k ≠ b → w'.heap[k]? = w.heap[k]?
theorem Kp.refl (b : Nat) (w : World) : Kp b w w := ⟨rfl, rfl, rfl, Nat.le_refl _, fun _ _ _ => rfl⟩
theorem Kp.trans {b : Nat} {w w1 w2 : World} (h : Kp b w w1) (k : Kp b w1 w2) : Kp b w w2 :=
  ⟨k.os.trans h.os, k.tape.trans h.tape, k.output.trans h.output, Nat.le_trans h.size k.size, fun i hi hne => (k.block i (Nat.lt_of_lt_of_le hi h.size) hne).trans (h.block i hi hne)⟩
theorem Ext.kp {b : Nat} {w w' : World} (h : Ext w w') : Kp b w w' := ⟨h.os, h.tape, h.output, h.size, fun i hi _ => h.block i hi⟩
theorem Wr.kp {b : Nat} {w w' : World} (h : Wr b w w') : Kp b w w' := ⟨h.os, h.tape, h.output, by rw [h.size]; exact Nat.le_refl _, fun i _ hne => h.block i hne⟩
/-- a change of a block that was not there before -/
theorem Kp.new {b c : Nat} {w w1 w2 : World} (h : Kp b w w1) (k : Kp c w1 w2) (hc : w.heap.size ≤ c) : Kp b w w2 :=
  ⟨k.os.trans h.os, k.tape.trans h.tape, k.output.trans h.output, Nat.le_trans h.size k.size, fun i hi hne => (k.block i (Nat.lt_of_lt_of_le hi h.size) (by omega)).trans (h.block i hi hne)⟩
theorem Ext.ofKp {c : Nat} {w w1 w2 : World} (h : Ext w w1) (k : Kp c w1 w2) (hc : w.heap.size ≤ c) : Ext w w2 :=
  ⟨k.os.trans h.os, k.tape.trans h.tape, k.output.trans h.output, Nat.le_trans h.size k.size, fun i hi => (k.block i (Nat.lt_of_lt_of_le hi h.size) (by omega)).trans (h.block i hi)⟩
theorem Bx.kp {b c : Nat} {w w' : World} {us : List Value} (h : Bx w c us) (k : Kp b w w') (hne : c ≠ b) : Bx w' c us := by
  obtain ⟨t, h⟩ := h
  exact ⟨t, by rw [k.block c (Array.getElem?_eq_some_iff.1 h).1 hne]; exact h⟩
theorem Owns.kp {b B : Nat} {w w' : World} {v : Value} {et k : Nat} {xs : List (List Value)} (h : Owns w B v et k xs) (hk : Kp b w w') (hb : b < B) : Owns w' B v et k xs := by
  obtain ⟨⟨hl, h⟩, h0⟩ := h
  refine ⟨⟨hl, ?_⟩, h0⟩
  rcases h with h | ⟨g, cap, cur, h1, h2, h3, h4⟩
  · exact .inl h
  · exact .inr ⟨g, cap, cur, h1, h2, by rw [hk.block g (Array.getElem?_eq_some_iff.1 h3).1 (by omega)]; exact h3, h4⟩
theorem CellAt.kp {b : Nat} {w w' : World} {p u : Value} (h : CellAt w p u) (k : Kp b w w') (hne : ∀ a, p = .pointer (some a) → a.block ≠ b) : CellAt w' p u := by
  obtain ⟨a, rfl, hc⟩ := h
  refine ⟨a, rfl, ?_⟩
  have hlt := World.block_lt_of_cell? w a hc
  have := k.block a.block hlt (hne a rfl)
  unfold World.cell? at hc ⊢
  rw [this]; exact hc
end Go.Vg
namespace Go.Vg
open Go.RowKit Go.Proofs Go.Lib

/-- an iterator over a text -/
def Its (w : World) (b : Nat) (s : List UInt8) (i : Nat) : Prop := w.heap[b]? = some (.stringIter ⟨⟨s⟩⟩ i)
section
variable {X : Cx} {ops : Array Oper} {l : List Oper} {kk : List Kt} {e : Env} {w : World} {N : Env → World → Prop} {d : Nat} {c : Option Bool} {ty : TypeId} {pos : String} {af : Array Edge} {g : Option (Nat × Bool)}

theorem Step.rangeS (T : Tb X.P) {x : Operand} {t : TypeId} {s : List UInt8} (hg : guardE ops e ⟨some d, .range t x, ty, pos, af, g⟩ = some none)
    (hx : Op1 e none x (S s)) (ht : T.ty t = some .string) (hn : Nat.blt d X.n = true)
    (h : ∀ w', Its w' w.heap.size s 0 → Ext w w' → N ((d, none, ptr w.heap.size) :: e) w') : Step X ops ⟨some d, .range t x, ty, pos, af, g⟩ e w N :=
  Step.eff (v := ptr w.heap.size) (w' := w.iter ⟨⟨s⟩⟩ 0) rfl (by simpa [Nat.blt_eq] using hn) hg (fun _ hh => by cases hh) (fun t' hf => by
    simp only [execOp, hx.val hf rfl, S, Sem.run_bind, run_range_string w t ⟨⟨s⟩⟩ (T.ok _ _ ht), Result.andThen_ok, Sem.run_pure]
    rfl) (h _ (World.iter_heap _ _ _) (Ext.alloc _ _))
theorem wr_iterAt (w : World) (b : Nat) (s : ByteArray) (i : Nat) : Wr b w (w.iterAt b s i) := ⟨rfl, rfl, rfl, iterAt_size _ _ _ _, fun _ hk => iterAt_other _ _ _ _ _ hk⟩
theorem Step.nextS {x : Operand} {s : List UInt8} {b i : Nat} (hg : guardE ops e ⟨some d, .next x true, ty, pos, af, g⟩ = some none) (hi : Its w b s i)
    (hx : Op1 e none x (ptr b)) (hlt : i < s.length) (hn : Nat.blt d X.n = true)
    (h : ∀ w', Its w' b s (i + (Utf8.decode ⟨⟨s⟩⟩ i).2) → Wr b w w' → N ((d, none, .tuple ⟨[.bool true, .int .i64 i, .int .i32 (Utf8.decode ⟨⟨s⟩⟩ i).1]⟩) :: e) w') : Step X ops ⟨some d, .next x true, ty, pos, af, g⟩ e w N :=
  Step.eff (v := .tuple ⟨[.bool true, .int .i64 i, .int .i32 (Utf8.decode ⟨⟨s⟩⟩ i).1]⟩) (w' := w.iterAt b ⟨⟨s⟩⟩ (i + (Utf8.decode ⟨⟨s⟩⟩ i).2)) rfl (by simpa [Nat.blt_eq] using hn) hg (fun _ hh => by cases hh) (fun t' hf => by
    simp only [execOp, hx.val hf rfl, ptr, Sem.run_bind, run_next_any_at w b ⟨⟨s⟩⟩ i ty hi hlt, Result.andThen_ok, Sem.run_pure]) (h _ (iterAt_heap _ _ _ _ _ hi) (wr_iterAt _ _ _ _))
theorem Step.nextE {x : Operand} {s : List UInt8} {b i : Nat} (hg : guardE ops e ⟨some d, .next x true, ty, pos, af, g⟩ = some none) (hi : Its w b s i)
    (hx : Op1 e none x (ptr b)) (hlt : ¬ i < s.length) (hn : Nat.blt d X.n = true)
    (h : N ((d, none, .tuple ⟨[.bool false]⟩) :: e) w) : Step X ops ⟨some d, .next x true, ty, pos, af, g⟩ e w N :=
  Step.eff (v := .tuple ⟨[.bool false]⟩) (w' := w) rfl (by simpa [Nat.blt_eq] using hn) hg (fun _ hh => by cases hh) (fun t' hf => by
    simp only [execOp, hx.val hf rfl, ptr, Sem.run_bind, run_next_end_at w b ⟨⟨s⟩⟩ i ty hi hlt, Result.andThen_ok, Sem.run_pure]) h
theorem decode_asc (s : List UInt8) (i : Nat) (h : i < s.length) (ha : (s.getD i 0).toNat < 128) : Utf8.decode ⟨⟨s⟩⟩ i = ((s.getD i 0).toNat, 1) := by
  have e : ((ByteArray.mk ⟨s⟩)[i]'h) = s.getD i 0 := by
    rw [List.getD_eq_getElem?_getD, List.getElem?_eq_getElem h]
    rfl
  rw [decode_ascii _ _ h (by rw [e]; exact ha), e]
/-- a character's bytes -/
def encL (n : Int) : List UInt8 := (Utf8.encode n).data.toList
theorem encL_high (n : Int) (hv : Utf8.valid n = true) (h : 128 ≤ n) : 2 ≤ (encL n).length ∧ (encL n).length ≤ 4 ∧ 128 ≤ ((encL n).getD ((encL n).length - 1) 0).toNat := by
  obtain ⟨h1, h2, h3⟩ := encode_facts n hv h
  have h4 : (Utf8.encode n).size - 1 < (Utf8.encode n).size := by omega
  refine ⟨h1, h2, ?_⟩
  have h5 := h3 h4
  have h6 : (encL n).length - 1 < (encL n).length := h4
  rw [List.getD_eq_getElem?_getD, List.getElem?_eq_getElem h6]
  exact h5
theorem Step.runeS (T : Tb X.P) {x : Operand} {src dst : TypeId} {q : IntKind} {n : Int} {sd : TypeDesc} (hg : guardE ops e ⟨some d, .convert src dst x, ty, pos, af, g⟩ = some c) (hx : Op1 e c x (.int q n)) (hs : T.ty src = some sd) (ht : T.ty dst = some .string)
    (hn : Nat.blt d X.n = true) (h : N ((d, c, S (encL n)) :: e) w) : Step X ops ⟨some d, .convert src dst x, ty, pos, af, g⟩ e w N :=
  Step.quiet rfl (by simpa [Nat.blt_eq] using hn) hg (fun _ hh => by cases hh) (fun t hf hc => by
    have := run_convert_int_string (P := X.P) w src dst q n (by simp [T.ok _ _ hs]) (T.ok _ _ ht)
    simp only [execOp, hx.val hf hc, Sem.run_bind, this, Result.andThen_ok, Sem.run_pure]
    rfl) h
theorem sRs (T : Tb X.P) {x : Operand} {src dst : TypeId} {q : IntKind} {n : Int} {sd : TypeDesc} (h : GL X ops l kk ((d, c, S (encL n)) :: e) w) (hg : guardE ops e ⟨some d, .convert src dst x, ty, pos, af, g⟩ = some c := by exact rfl)
    (hx : Op1 e c x (.int q n) := by exact Op1.of rfl (fun _ => rfl)) (hs : T.ty src = some sd := by exact rfl) (ht : T.ty dst = some .string := by exact rfl) (hn : Nat.blt d X.n = true := by exact rfl) :
    GL X ops (⟨some d, .convert src dst x, ty, pos, af, g⟩ :: l) kk e w := GL.cons (Step.runeS T hg hx hs ht hn h)
theorem Step.max2 {x y : Operand} {t1 t2 : TypeId} {q : IntKind} {a b : Int} (hg : guardE ops e ⟨some d, .call { callee := .builtin .max, args := #[x, y], argTypes := #[t1, t2] }, ty, pos, af, g⟩ = some none)
    (hx : Op1 e none x (.int q a)) (hy : Op1 e none y (.int q b)) (hn : Nat.blt d X.n = true)
    (h : N ((d, none, .int q (if a < b then b else a)) :: e) w) : Step X ops ⟨some d, .call { callee := .builtin .max, args := #[x, y], argTypes := #[t1, t2] }, ty, pos, af, g⟩ e w N :=
  Step.eff rfl (by simpa [Nat.blt_eq] using hn) hg (fun _ hh => by cases hh) (fun t' hf => run_builtin2 (hx.val hf rfl) (hy.val hf rfl) fun cs => by
    simp [builtin, Builtin.max_, Builtin.max2]) h
theorem sRg (T : Tb X.P) {x : Operand} {t : TypeId} {s : List UInt8}
    (h : ∀ w', Its w' w.heap.size s 0 → Ext w w' → GL X ops l kk ((d, none, ptr w.heap.size) :: e) w') (hg : guardE ops e ⟨some d, .range t x, ty, pos, af, g⟩ = some none := by exact rfl)
    (hx : Op1 e none x (S s) := by exact Op1.of rfl (fun _ => rfl)) (ht : T.ty t = some .string := by exact rfl) (hn : Nat.blt d X.n = true := by exact rfl) :
    GL X ops (⟨some d, .range t x, ty, pos, af, g⟩ :: l) kk e w := GL.cons (Step.rangeS T hg hx ht hn h)
theorem sNx {x : Operand} {s : List UInt8} {b i : Nat} (hi : Its w b s i) (hlt : i < s.length)
    (h : ∀ w', Its w' b s (i + (Utf8.decode ⟨⟨s⟩⟩ i).2) → Wr b w w' → GL X ops l kk ((d, none, .tuple ⟨[.bool true, .int .i64 i, .int .i32 (Utf8.decode ⟨⟨s⟩⟩ i).1]⟩) :: e) w')
    (hg : guardE ops e ⟨some d, .next x true, ty, pos, af, g⟩ = some none := by exact rfl) (hx : Op1 e none x (ptr b) := by exact Op1.of rfl (fun _ => rfl)) (hn : Nat.blt d X.n = true := by exact rfl) :
    GL X ops (⟨some d, .next x true, ty, pos, af, g⟩ :: l) kk e w := GL.cons (Step.nextS hg hi hx hlt hn h)
theorem sNe {x : Operand} {s : List UInt8} {b i : Nat} (hi : Its w b s i) (hlt : ¬ i < s.length)
    (h : GL X ops l kk ((d, none, .tuple ⟨[.bool false]⟩) :: e) w)
    (hg : guardE ops e ⟨some d, .next x true, ty, pos, af, g⟩ = some none := by exact rfl) (hx : Op1 e none x (ptr b) := by exact Op1.of rfl (fun _ => rfl)) (hn : Nat.blt d X.n = true := by exact rfl) :
    GL X ops (⟨some d, .next x true, ty, pos, af, g⟩ :: l) kk e w := GL.cons (Step.nextE hg hi hx hlt hn h)
end
end Go.Vg
namespace Go.Vg
open Go.RowKit

theorem Owns.same {w w' : World} {B : Nat} {v : Value} {et k : Nat} {xs : List (List Value)} (h : Owns w B v et k xs) (hs : ∀ g, g < w.heap.size → v.ownBlock = some g → w'.heap[g]? = w.heap[g]?) : Owns w' B v et k xs := by
  obtain ⟨⟨hl, h⟩, h0⟩ := h
  refine ⟨⟨hl, ?_⟩, h0⟩
  rcases h with h | ⟨g, cap, cur, rfl, h2, h3, h4⟩
  · exact .inl h
  · exact .inr ⟨g, cap, cur, rfl, h2, by rw [hs g (Array.getElem?_eq_some_iff.1 h3).1 rfl]; exact h3, h4⟩
theorem Bx.same {w w' : World} {b : Nat} {us : List Value} (h : Bx w b us) (hs : w'.heap[b]? = w.heap[b]?) : Bx w' b us := by
  obtain ⟨t, h⟩ := h
  exact ⟨t, by rw [hs]; exact h⟩
theorem Owns.lt {w : World} {B : Nat} {v : Value} {et k : Nat} {xs : List (List Value)} (h : Owns w B v et k xs) : ∀ g, v.ownBlock = some g → B ≤ g ∧ g < w.heap.size := by
  intro g hg
  rcases h.1.2 with ⟨rfl, _⟩ | ⟨g', cap, cur, rfl, h2, h3, _⟩
  · simp [Value.ownBlock] at hg
  · simp only [Value.ownBlock, Option.some.injEq] at hg
    subst hg
    exact ⟨h2, (Array.getElem?_eq_some_iff.1 h3).1⟩
/-- what an append leaves alone, as a change at one block -/
theorem Kp.grew {b B : Nat} {w w1 w2 : World} {v : Value} (h : Kp b w w1) (k : Grew B v w1 w2) (hv : ∀ g, v.ownBlock = some g → w.heap.size ≤ g) (hB : B ≤ w.heap.size) : Kp b w w2 := by
  have hb := k.below w1 (Below.refl _ _)
  exact ⟨hb.os.trans h.os, hb.tape.trans h.tape, hb.output.trans h.output, Nat.le_trans h.size k.size, fun i hi hne => (k.block i (Nat.lt_of_lt_of_le hi h.size) (fun e => by have := hv i e.symm; omega)).trans (h.block i hi hne)⟩
theorem Grew.kp {B : Nat} {w w' : World} {v : Value} (k : Grew B v w w') : Kp (v.ownBlock.getD w.heap.size) w w' := by
  have hb := k.below w (Below.refl _ _)
  refine ⟨hb.os, hb.tape, hb.output, k.size, fun i hi hne => k.block i hi fun e => hne ?_⟩
  rw [← e]; rfl
theorem Owns.own2 {w : World} {B : Nat} {v v' : Value} {et k : Nat} {xs : List (List Value)} (_ : Owns w B v et k xs) (ho : Own2 w v v') {b : Nat} (hb : b < w.heap.size) (hne : v.ownBlock ≠ some b) : v'.ownBlock ≠ some b := by
  rcases ho with ho | ho
  · rw [ho]; exact hne
  · rw [ho]; intro e; simp only [Option.some.injEq] at e; omega
end Go.Vg
namespace Go.Vg
open Go.RowKit

theorem ret_of_GDf {P : Program} {f : FuncId} {fn : Func} {c : Code} {vs : List Value} {w : World} {R : Value → World → Prop} {n : Nat}
    (hf : P.funcs[f]? = some fn) (hb : fn.body = some c) (hn : fn.ntmps = n) (hl : Nat.ble vs.length n = true)
    (h : G ⟨none, P, bodyPostD P fn fun en w' => ∃ v, en = .returned v ∧ R v w', n, []⟩ [.code c] (argEnv 0 vs) w) : Ret P f ⟨vs⟩ w R := by
  refine calls_of_wp_defers hf hb ?_
  have h1 := h _ (fits_start hn (by simpa using hl))
  refine wpIn_wide (n := 0) |>.1 ?_
  refine wpIn_mono h1 ?_
  intro ex a w' hq
  cases ex <;> exact hq

section
variable {X : Cx} {ops : Array Oper} {e : Env} {w : World} {d : Nat} {c : Option Bool} {ty : TypeId} {pos : String} {af : Array Edge} {g : Option (Nat × Bool)} {l : List Oper} {k : List Kt}

/-- the last of a region lays a deferred call -/
theorem GL.deferL {f : FuncId} {cap : List Value} {s : Nat} (hρ : X.ρ = none) (hg : guardE ops e ⟨none, .defer { callee := .value (.tmp s), args := #[], argTypes := #[] }, ty, pos, af, g⟩ = some none)
    (hx : Op1 e none (.tmp s) (.func (.func f) #[] ⟨cap⟩)) (h : G ⟨X.ρ, X.P, X.fin, X.n, { target := .fn (.func f) ⟨cap⟩, args := #[] } :: X.ds⟩ k e w) :
    GL X ops [⟨none, .defer { callee := .value (.tmp s), args := #[], argTypes := #[] }, ty, pos, af, g⟩] k e w := by
  intro t hf
  simp only [wpL]
  rw [guardE_wanted hf hg, if_pos (by rfl)]
  refine ⟨fun _ _ => trivial, ?_⟩
  have hv : (Act.mk t X.ds).eval (.tmp s) = .func (.func f) #[] ⟨cap⟩ := hx.val hf rfl
  have hr : (Oper.semAt (FW X.ρ).round (Act.mk t X.ds).eval ⟨none, .defer { callee := .value (.tmp s), args := #[], argTypes := #[] }, ty, pos, af, g⟩).run X.P w = .ok (.defer { target := .fn (.func f) ⟨cap⟩, args := #[] }) w := by
    rw [hρ]
    have : (FW (none : Option Nat)).round = none := rfl
    rw [this, Oper.semAt_none]
    simp [execOp, resolve, hv, Deferred.ofValue, Sem.run_bind, Sem.run_pure]
  rw [hr]
  exact h t hf
/-- a call that may panic, with what the frame holds then -/
theorem GL.callPk {f : FuncId} {args : Array Operand} {ats : Array TypeId} {lo : List Operand} {vs : List Value} {S : Value → World → Prop} {Z : List PanicEntry → World → Prop}
    (hf : Callable X.P f) (hc : RetP X.P f ⟨vs⟩ w S Z) (hz : ∀ ch w' t, Fits X.n e t → Z ch w' → X.fin (.panic ch) ⟨t, X.ds⟩ w') (h : ∀ v w', S v w' → GL X ops l k ((d, none, v) :: e) w')
    (hg : guardE ops e ⟨some d, .call { callee := .value (.func f), args := args, argTypes := ats }, ty, pos, af, g⟩ = some none := by exact rfl)
    (ha : args = ⟨lo⟩ := by exact rfl) (hvs : evs e lo = some vs := by exact rfl) (hn : Nat.blt d X.n = true := by exact rfl) :
    GL X ops (⟨some d, .call { callee := .value (.func f), args := args, argTypes := ats }, ty, pos, af, g⟩ :: l) k e w := by
  intro t hft
  simp only [wpL]
  rw [guardE_wanted hft hg, if_pos (by rfl)]
  refine ⟨fun _ _ => trivial, ?_⟩
  rw [Oper.semAt_eq _ _ _ (fun _ hh => by cases hh)]
  have := evs_map (ds := X.ds) hft hvs
  subst ha
  have h2 : (Array.mk lo).map (Act.mk t X.ds).eval = ⟨vs⟩ := by simp [this]
  have hrun : (execOp (Act.mk t X.ds).eval ⟨some d, .call { callee := .value (.func f), args := ⟨lo⟩, argTypes := ats }, ty, pos, af, g⟩).run X.P w = .ok (.enter f ⟨vs⟩) w := by
    simp only [execOp, resolve, h2, Act.eval, Deferred.ofValue, Sem.run_bind, Sem.run_pure, Result.andThen_ok, invoke, Array.empty_append, Array.append_empty, run_callFunc hf]
  show Oper.uponIn _ _ _ _ _ _ _ ((execOp (Act.mk t X.ds).eval _).run X.P w)
  rw [hrun]
  refine ⟨fun h => by simp [Fence.wide] at h, callsW (Calls.mono hc ?_)⟩
  rintro en w' (⟨v, rfl, hS⟩ | ⟨ch, rfl, hZ⟩)
  · exact h v w' hS _ (hft.put (by simpa [Nat.blt_eq] using hn) none v)
  · exact post_panic (hz ch w' t hft hZ)
end

/-- the deferred closure, at a return -/
theorem leaves_ret {P : Program} {fn : Func} {t : Array Value} {f : FuncId} {cap : List Value} {w : World} {R : Value → World → Prop} {S : World → Prop} (hf : Callable P f)
    (hc : CallsD P f ⟨cap⟩ .returning w fun en u w' => en = .returned (.tuple #[]) ∧ u = .returning ∧ S w') (h : ∀ w', S w' → ∃ v, (results fn t).run P w' = .ok v w' ∧ R v w') :
    Leaves P fn t (fun en w' => ∃ v, en = .returned v ∧ R v w') [{ target := .fn (.func f) ⟨cap⟩, args := #[] }] .returning w := by
  refine leaves_cons (f := f) (args := ⟨cap⟩) (by simp) (by simp [invoke, run_callFunc hf]) ?_
  refine hc.mono ?_
  rintro en u w' ⟨rfl, rfl, hS⟩
  obtain ⟨v, hr, hR⟩ := h w' hS
  exact ⟨v, hr, v, rfl, hR⟩
/-- the deferred closure, at a panic that it catches -/
theorem leaves_panic {P : Program} {fn : Func} {t : Array Value} {f : FuncId} {cap : List Value} {w : World} {R : Value → World → Prop} {S : World → Prop} {v0 : Value} (hf : Callable P f)
    (hc : CallsD P f ⟨cap⟩ (.panicking [{ v := v0, recovered := false }]) w fun en u w' => en = .returned (.tuple #[]) ∧ u = .panicking [{ v := v0, recovered := true }] ∧ S w') (h : ∀ w', S w' → ∃ v, (results fn t).run P w' = .ok v w' ∧ R v w') :
    Leaves P fn t (fun en w' => ∃ v, en = .returned v ∧ R v w') [{ target := .fn (.func f) ⟨cap⟩, args := #[] }] (.panicking [{ v := v0, recovered := false }]) w := by
  refine leaves_cons (f := f) (args := ⟨cap⟩) (by simp) (by simp [invoke, run_callFunc hf]) ?_
  refine hc.mono ?_
  rintro en u w' ⟨rfl, rfl, hS⟩
  obtain ⟨v, hr, hR⟩ := h w' hS
  exact ⟨v, hr, v, rfl, hR⟩

def catchFin (S : World → Prop) : Exit → Act → World → Prop
  | .normal, a, w => a.defers = [] ∧ S w
  | .ret, a, w => a.defers = [] ∧ S w
  | _, _, _ => False
theorem G.endCatch {X : Cx} {e : Env} {w : World} {S : World → Prop} (hX : X.fin = catchFin S) (hd : X.ds = []) (h : S w) : G X [] e w := by
  refine G.nil fun t _ => ?_
  rw [hX, hd]
  exact ⟨rfl, h⟩
theorem calls_catch {P : Program} {f : FuncId} {fn : Func} {id : Nat} {rest : Code} {d : Nat} {ty : TypeId} {pos : String} {vs : List Value} {w : World} {S : World → Prop} {n : Nat} {u u' : FrameMode} {v : Value}
    (hf : P.funcs[f]? = some fn) (hb : fn.body = some (.seq (.region id #[⟨some d, .call { callee := .builtin .recover, args := #[], argTypes := #[] }, ty, pos, #[], none⟩] false) rest)) (hn : fn.ntmps = n) (hl : Nat.ble vs.length n = true) (hd : Nat.blt d n = true) (hr : fn.results = #[])
    (hu : ∀ (c : Frame) (cs : List Frame), c.mode = u → (match recoverD (c :: cs) with | some (x, cs') => x = v ∧ cs' = { c with mode := u' } :: cs | none => v = .nilIface ∧ u' = u))
    (h : G ⟨none, P, catchFin S, n, []⟩ [.code rest] ((d, none, v) :: argEnv 0 vs) w) : CallsD P f ⟨vs⟩ u w fun en m w' => en = .returned (.tuple #[]) ∧ m = u' ∧ S w' := by
  refine callsD_of_wpS hf hb fun c₀ cs hm => ?_
  refine wpS_seq (wpS_region ?_)
  have hfit := (fits_start (vs := vs) hn (by simpa using hl)).put (d := d) (by simpa [Nat.blt_eq] using hd) none v
  have h1 := (wpIn_wide (n := 0)).1 (wpIn_mono (h _ hfit) (Q' := fun ex a w' => bodyPostS P fn c₀ cs (fun en m w' => en = .returned (.tuple #[]) ∧ m = u' ∧ S w') ex a ({ c₀ with mode := u' } :: cs) w') (by
    intro ex a w' hq
    cases ex
    case normal => exact ⟨hq.1, u', rfl, .tuple #[], results_none hr _ _ _, rfl, rfl, hq.2⟩
    case ret => exact ⟨hq.1, u', rfl, .tuple #[], results_none hr _ _ _, rfl, rfl, hq.2⟩
    all_goals exact hq.elim))
  have h2 := wpS_of_wp h1
  have hrun : ∀ a : Act, (execOp a.eval ⟨some d, .call { callee := .builtin .recover, args := #[], argTypes := #[] }, ty, pos, #[], none⟩).run P w = .ok .recover w := fun a => by
    simp [execOp, resolve, invoke]
    rfl
  have hrange : List.range (#[(⟨some d, .call { callee := .builtin .recover, args := #[], argTypes := #[] }, ty, pos, #[], none⟩ : Oper)]).size = [0] := rfl
  rw [hrange]
  simp only [wpOpsS, List.getElem?_toArray, List.getElem?_cons_zero, Region.wanted, if_true, hrun]
  have hu := hu c₀ cs hm
  split at hu
  · rename_i x cs' hx
    obtain ⟨rfl, rfl⟩ := hu
    rw [hx]
    exact h2
  · rename_i hx
    obtain ⟨rfl, rfl⟩ := hu
    rw [hx]
    have : ({ c₀ with mode := u' } : Frame) = c₀ := by rw [← hm]
    rw [this] at h2
    exact h2
end Go.Vg
namespace Go.Vg
open Go.RowKit
section
variable {X : Cx} {ops : Array Oper} {l : List Oper} {k : List Kt} {e : Env} {w : World} {N : Env → World → Prop} {d : Nat} {c : Option Bool} {ty : TypeId} {pos : String} {af : Array Edge} {g : Option (Nat × Bool)}

theorem Step.eqIface (T : Tb X.P) {xt yt : TypeId} {x y : Operand} {t : TypeId} {v : Value} {ms : Array (String × TypeId)} (hg : guardE ops e ⟨some d, .binOp .eql xt x y yt, ty, pos, af, g⟩ = some c)
    (hx : Op1 e c x (.iface t v)) (hy : Op1 e c y .nilIface) (ht : T.ty xt = some (.interface ms)) (hn : Nat.blt d X.n = true)
    (h : N ((d, c, .bool false) :: e) w) : Step X ops ⟨some d, .binOp .eql xt x y yt, ty, pos, af, g⟩ e w N :=
  Step.quiet rfl (by simpa [Nat.blt_eq] using hn) hg (fun _ hh => by cases hh) (fun t' hf hc => by
    have hT := T.ok _ _ ht
    have h1 : (eqGuard .eql xt x y (.iface t v) .nilIface).run X.P w = .ok () w := by simp [eqGuard]
    have he : ∀ (n : Nat) (w : World), (Op.equalIn (n + 1) xt (.iface t v) .nilIface).run X.P w = .ok false w := fun n w => by
      simp [Op.equalIn, run_underlying hT]
    have hm : Op.maxDepth = 9999 + 1 := rfl
    have h2 : (binOp .eql xt (.iface t v) .nilIface).run X.P w = .ok (.bool false) w := by
      simp only [binOp, Op.equal, hm, Sem.run_bind, he, Sem.run_map, Result.andThen_ok, Sem.run_pure]
    simp only [execOp, hx.val hf hc, hy.val hf hc, Sem.run_bind, h1, h2, Result.andThen_ok, Sem.run_pure]) h
theorem Step.eqNil (T : Tb X.P) {xt yt : TypeId} {x : Operand} {u : Value} {ms : Array (String × TypeId)} (hg : guardE ops e ⟨some d, .binOp .eql xt x (.const u) yt, ty, pos, af, g⟩ = some c)
    (hx : Op1 e c x .nilIface) (hy : Op1 e c (.const u) .nilIface) (ht : T.ty xt = some (.interface ms)) (hn : Nat.blt d X.n = true)
    (h : N ((d, c, .bool true) :: e) w) : Step X ops ⟨some d, .binOp .eql xt x (.const u) yt, ty, pos, af, g⟩ e w N :=
  Step.quiet rfl (by simpa [Nat.blt_eq] using hn) hg (fun _ hh => by cases hh) (fun t' hf hc => by
    have hT := T.ok _ _ ht
    have h1 : (eqGuard .eql xt x (.const u) .nilIface .nilIface).run X.P w = .ok () w := by simp [eqGuard]
    have he : ∀ (n : Nat) (w : World), (Op.equalIn (n + 1) xt .nilIface .nilIface).run X.P w = .ok true w := fun n w => by
      simp [Op.equalIn, run_underlying hT]
    have hm : Op.maxDepth = 9999 + 1 := rfl
    have h2 : (binOp .eql xt .nilIface .nilIface).run X.P w = .ok (.bool true) w := by
      simp only [binOp, Op.equal, hm, Sem.run_bind, he, Sem.run_map, Result.andThen_ok, Sem.run_pure]
    simp only [execOp, hx.val hf hc, hy.val hf hc, Sem.run_bind, h1, h2, Result.andThen_ok, Sem.run_pure]) h
theorem Step.assertT (T : Tb X.P) {x : Operand} {xt t : TypeId} {v : Value} {td : TypeDesc} (hg : guardE ops e ⟨some d, .typeAssert x xt t true, ty, pos, af, g⟩ = some c)
    (hx : Op1 e c x (.iface t v)) (ht : T.ty t = some td) (hi : ifaceT td = false) (hn : Nat.blt d X.n = true)
    (h : N ((d, c, .tuple ⟨[v, .bool true]⟩) :: e) w) : Step X ops ⟨some d, .typeAssert x xt t true, ty, pos, af, g⟩ e w N :=
  Step.quiet rfl (by simpa [Nat.blt_eq] using hn) hg (fun _ hh => by cases hh) (fun t' hf hc => by
    have hT := T.ok _ _ ht
    simp only [execOp, hx.val hf hc, Instr.typeAssert, Sem.run_bind, run_underlying hT, Result.andThen_ok]
    cases td <;> first | (cases hi; done) | simp) h
end
/-- four results, out of cells -/
theorem resC4 {P : Program} {fn : Func} {n : Nat} {e : Env} {t : Array Value} (hf : Fits n e t) {s1 t1 s2 t2 s3 t3 s4 t4 : Nat} {p1 u1 p2 u2 p3 u3 p4 u4 : Value} {d1 d2 d3 d4 : TypeDesc} (hr : fn.results = #[.cell s1 t1, .cell s2 t2, .cell s3 t3, .cell s4 t4])
    (hv1 : look e s1 = some (none, p1)) (hv2 : look e s2 = some (none, p2)) (hv3 : look e s3 = some (none, p3)) (hv4 : look e s4 = some (none, p4))
    (ht1 : P.underlying t1 = some d1) (ha1 : aggT d1 = false) (ht2 : P.underlying t2 = some d2) (ha2 : aggT d2 = false) (ht3 : P.underlying t3 = some d3) (ha3 : aggT d3 = false) (ht4 : P.underlying t4 = some d4) (ha4 : aggT d4 = false)
    {w : World} (hc1 : CellAt w p1 u1) (hc2 : CellAt w p2 u2) (hc3 : CellAt w p3 u3) (hc4 : CellAt w p4 u4) : (results fn t).run P w = .ok (.tuple ⟨[u1, u2, u3, u4]⟩) w := by
  obtain ⟨a1, rfl, hc1⟩ := hc1
  obtain ⟨a2, rfl, hc2⟩ := hc2
  obtain ⟨a3, rfl, hc3⟩ := hc3
  obtain ⟨a4, rfl, hc4⟩ := hc4
  have h1 : t.getD s1 undef = .pointer (some a1) := (hf.get _ _ _ hv1).2
  have h2 : t.getD s2 undef = .pointer (some a2) := (hf.get _ _ _ hv2).2
  have h3 : t.getD s3 undef = .pointer (some a3) := (hf.get _ _ _ hv3).2
  have h4 : t.getD s4 undef = .pointer (some a4) := (hf.get _ _ _ hv4).2
  have e1 : (loadVar t1 a1).run P w = .ok u1 w := by simp [loadVar, Sem.run_bind, run_isAgg ht1, ha1, hc1]
  have e2 : (loadVar t2 a2).run P w = .ok u2 w := by simp [loadVar, Sem.run_bind, run_isAgg ht2, ha2, hc2]
  have e3 : (loadVar t3 a3).run P w = .ok u3 w := by simp [loadVar, Sem.run_bind, run_isAgg ht3, ha3, hc3]
  have e4 : (loadVar t4 a4).run P w = .ok u4 w := by simp [loadVar, Sem.run_bind, run_isAgg ht4, ha4, hc4]
  simp only [results, hr, List.mapM_toArray, List.mapM_cons, List.mapM_nil, h1, h2, h3, h4, asAddr, Sem.run_bind, Sem.run_map, Sem.run_pure, Result.andThen_ok, e1, e2, e3, e4]
  rfl
end Go.Vg
namespace Go.Vg
open Go.RowKit

theorem flatten_set1 {k : Nat} : ∀ (xs : List (List Value)) (j off : Nat) (u : Value), (∀ x ∈ xs, x.length = k) → j < xs.length → off < k → (xs.set j ((xs.getD j []).set off u)).flatten = xs.flatten.set (j * k + off) u
  | [], j, _, _, _, hj, _ => by simp at hj
  | x :: r, 0, off, u, h, _, ho => by
    have hx : x.length = k := h x (by simp)
    simp only [List.set_cons_zero, List.flatten_cons, List.getD_cons_zero, Nat.zero_mul, Nat.zero_add]
    rw [List.set_append_left _ _ (by omega)]
  | x :: r, j + 1, off, u, h, hj, ho => by
    have hx : x.length = k := h x (by simp)
    have ih := flatten_set1 r j off u (fun y hy => h y (by simp [hy])) (by simpa using hj) ho
    simp only [List.set_cons_succ, List.flatten_cons, List.getD_cons_succ]
    rw [List.set_append_right _ _ (by rw [hx, Nat.succ_mul]; omega), ih, hx, Nat.succ_mul]
    congr 2
    omega

section
variable {X : Cx} {ops : Array Oper} {l : List Oper} {kk : List Kt} {e : Env} {w : World} {N : Env → World → Prop} {d : Nat} {c : Option Bool} {ty : TypeId} {pos : String} {af : Array Edge} {g : Option (Nat × Bool)}

theorem Step.storeRowF (T : Tb X.P) {x y : Operand} {t : TypeId} {v u z : Value} {k by_ B et j off : Nat} {xs : List (List Value)} (hg : guardE ops e ⟨none, .store t x y, ty, pos, af, g⟩ = some none)
    (hx : Op1 e none x (padd (padd v (j * k)) off)) (hy : Op1 e none y u) (hi : T.inf t = some (z, 1, by_)) (hv : u.cells = ⟨[u]⟩) (h1 : u.oneCell' = true)
    (ho : Owns w B v et k xs) (hj : j < xs.length) (hoff : off < k)
    (h : ∀ w', Owns w' B v et k (xs.set j ((xs.getD j []).set off u)) → Grew B v w w' → N e w') : Step X ops ⟨none, .store t x y, ty, pos, af, g⟩ e w N := by
  obtain ⟨⟨hl, hr⟩, hk, hb⟩ := ho
  rcases hr with ⟨rfl, hn⟩ | ⟨gb, cap, ⟨us⟩, rfl, hB, hgb, hc, hm, hsz, htk⟩
  · omega
  · have hle : xs.length * k ≤ cap * k := Nat.mul_le_mul_right _ hc
    have hjk : (j + 1) * k ≤ xs.length * k := Nat.mul_le_mul_right _ hj
    rw [Nat.add_mul, Nat.one_mul] at hjk
    have hus : us.length = cap * k := hsz
    simp only at htk
    obtain ⟨w', hrun, hw, hx'⟩ := run_storeCells_t X.P et [u] gb (j * k + off) 0 us w hgb (by simp only [List.length_cons, List.length_nil]; omega) (by intro v hv; simp only [List.mem_cons, List.not_mem_nil, or_false] at hv; subst hv; exact h1)
    rw [Nat.add_zero] at hx'
    have hset : us.take (j * k + off) ++ [u] ++ us.drop (j * k + off + [u].length) = us.set (j * k + off) u := by
      rw [List.set_eq_take_append_cons_drop, if_pos (by omega)]
      simp
    rw [hset] at hx'
    refine Step.effNone rfl hg (fun _ hh => by cases hh) (w' := w') (fun t' hf => ?_) (h w' ?_ ?_)
    · have hp : padd (padd (Value.slice (some ⟨gb, 0, none⟩) xs.length cap) (j * k)) off = .pointer (some ⟨gb, j * k + off, none⟩) := by simp [padd, Addr.add_lit]
      have hsz' : ¬ ((⟨[u]⟩ : Array Value).size ≠ 1) := by simp
      simp only [execOp, hx.val hf rfl, hy.val hf rfl, hp, Instr.storeAt, Instr.sureAddr, storeVar, Sem.run_bind, Sem.run_pure, Result.andThen_ok, run_sizeOf hi, hv, if_neg hsz', hrun]
    · have hfl := flatten_set1 xs j off u hk hj hoff
      have hmem : ∀ y ∈ xs.set j ((xs.getD j []).set off u), y.length = k := by
        intro y hy
        rcases List.mem_or_eq_of_mem_set hy with hy | rfl
        · exact hk y hy
        · rw [List.length_set, List.getD_eq_getElem?_getD, List.getElem?_eq_getElem hj]
          exact hk _ (List.getElem_mem hj)
      refine ⟨⟨?_, .inr ⟨gb, cap, _, by rw [List.length_set], hB, hx', by rw [List.length_set]; exact hc, hm, ?_, ?_⟩⟩, hmem, by rw [List.length_set]; exact hb⟩
      · rw [flatten_length _ hmem]
      · simp only [List.size_toArray, List.length_set]; exact hus
      · rw [List.length_set, hfl, ← htk]
        simp only
        rw [List.take_set]
    · exact ⟨fun w0 hb0 => hb0.wr hw hB, by rw [hw.size]; exact Nat.le_refl _, fun q hq hne => hw.block q (fun e => hne (by rw [e]; rfl))⟩
end
end Go.Vg
namespace Go.Vg
open Go.RowKit

structure Kq (P : Nat → Prop) (w w' : World) : Prop where
  os : w'.os = w.os
  tape : w'.tape = w.tape
  output : w'.output = w.output
  size : w.heap.size ≤ w'.heap.size
  same : ∀ g, g < w.heap.size → P g → w'.heap[g]? = w.heap[g]?
theorem Kq.refl (P : Nat → Prop) (w : World) : Kq P w w := ⟨rfl, rfl, rfl, Nat.le_refl _, fun _ _ _ => rfl⟩
theorem Kq.trans {P : Nat → Prop} {w w1 w2 : World} (h : Kq P w w1) (k : Kq P w1 w2) : Kq P w w2 :=
  ⟨k.os.trans h.os, k.tape.trans h.tape, k.output.trans h.output, Nat.le_trans h.size k.size, fun g hg hp => (k.same g (Nat.lt_of_lt_of_le hg h.size) hp).trans (h.same g hg hp)⟩
theorem Kq.mono {P Q : Nat → Prop} {w w1 : World} (h : Kq P w w1) (hq : ∀ g, g < w.heap.size → Q g → P g) : Kq Q w w1 :=
  ⟨h.os, h.tape, h.output, h.size, fun g hg hp => h.same g hg (hq g hg hp)⟩
theorem Ext.kq {P : Nat → Prop} {w w1 : World} (h : Ext w w1) : Kq P w w1 := ⟨h.os, h.tape, h.output, h.size, fun g hg _ => h.block g hg⟩
theorem Wr.kq {P : Nat → Prop} {b : Nat} {w w1 : World} (h : Wr b w w1) (hb : ¬ P b) : Kq P w w1 :=
  ⟨h.os, h.tape, h.output, Nat.le_of_eq h.size.symm, fun g _ hp => h.block g fun e => hb (e ▸ hp)⟩
theorem Kp.kq {P : Nat → Prop} {b : Nat} {w w1 : World} (h : Kp b w w1) (hb : ¬ P b) : Kq P w w1 :=
  ⟨h.os, h.tape, h.output, h.size, fun g hg hp => h.block g hg fun e => hb (e ▸ hp)⟩
theorem Grew.kq {P : Nat → Prop} {B : Nat} {v : Value} {w w1 : World} (h : Grew B v w w1) (hv : ∀ g, v.ownBlock = some g → ¬ P g) : Kq P w w1 := by
  have hb := h.below w (Below.refl _ _)
  exact ⟨hb.os, hb.tape, hb.output, h.size, fun g hg hp => h.block g hg fun e => hv g e.symm hp⟩
theorem Own2.np {P : Nat → Prop} {w : World} {v v' : Value} (h : Own2 w v v') (hv : ∀ g, v.ownBlock = some g → ¬ P g) (hn : ¬ P w.heap.size) : ∀ g, v'.ownBlock = some g → ¬ P g := by
  intro g hg
  rcases h with h | h
  · exact hv g (h ▸ hg)
  · rw [h] at hg
    cases hg
    exact hn
end Go.Vg
namespace Go.Vg
open Go.RowKit

theorem Owns.cut {w : World} {B : Nat} {v : Value} {et k : Nat} {xs : List (List Value)} (h : Owns w B v et k xs) {n : Nat} (hn : n ≤ xs.length) : Owns w B (subS v k 0 n) et k (xs.take n) := by
  obtain ⟨⟨hl, h⟩, hk, hb⟩ := h
  have hlt : (xs.take n).length = n := by simp; omega
  have hft := flatten_take xs n hk
  refine ⟨⟨?_, ?_⟩, fun x hx => hk x (List.take_subset _ _ hx), by omega⟩
  · rw [hlt, hft, List.length_take, hl]
    have := Nat.mul_le_mul_right k hn
    omega
  · rcases h with ⟨rfl, hx⟩ | ⟨g, cap, ⟨us⟩, rfl, h2, h3, h4, h5, h6, h7⟩
    · left
      have : n = 0 := by omega
      subst this
      exact ⟨by simp [subS], by simp⟩
    · right
      refine ⟨g, cap, ⟨us⟩, ?_, h2, h3, by omega, h5, h6, ?_⟩
      · rw [hlt]
        simp only [subS, Nat.sub_zero]
        split
        · rfl
        · simp [Addr.add]
      · rw [hlt, hft, ← h7]
        simp only
        rw [List.take_take, Nat.min_eq_left (Nat.mul_le_mul_right k hn)]
theorem subS_own {v : Value} {k l h : Nat} : (subS v k l h).ownBlock = v.ownBlock := by
  unfold subS
  split
  · rename_i a n cap
    cases a with
    | none => split <;> rfl
    | some a =>
      split
      · rfl
      · simp only [Option.map_some, Value.ownBlock, Addr.add_block]
  · rfl
section
variable {X : Cx} {ops : Array Oper} {l : List Oper} {kk : List Kt} {e : Env} {w : World} {N : Env → World → Prop} {d : Nat} {c : Option Bool} {ty : TypeId} {pos : String} {af : Array Edge} {g : Option (Nat × Bool)}

theorem Step.make1 (T : Tb X.P) {x y : Operand} {t et : TypeId} {z : Value} {bytes : Nat} (n : Nat) {m : Int} (hg : guardE ops e ⟨some d, .makeSlice t x y, ty, pos, af, g⟩ = some none)
    (hx : Op1 e none x (.int .i64 m)) (hy : Op1 e none y (.int .i64 m)) (hm : m = n) (ht : T.ty t = some (.slice et)) (hi : T.inf et = some (z, 1, bytes)) (hz : z.cells = ⟨[z]⟩)
    (hb : bytes * n ≤ 140737488355328) (hl : n ≤ 140737488355328) (hn : Nat.blt d X.n = true)
    (h : ∀ v w', Owns w' w.heap.size v et 1 ((List.replicate n z).map fun u => [u]) → w'.heap.size = w.heap.size + 1 → Ext w w' → v.ownBlock = some w.heap.size → N ((d, none, v) :: e) w') :
    Step X ops ⟨some d, .makeSlice t x y, ty, pos, af, g⟩ e w N := by
  obtain ⟨i, hi1, hi2, hi3, hi4⟩ := T.iok _ _ _ _ hi
  have hT := T.ok _ _ ht
  subst hm
  have hbb : i.bytes * n ≤ 281474976710656 := by rw [hi4]; omega
  have hr := run_make_row (P := X.P) t et i z hT hi1 hi2 hi3 hz .i64 .i64 n hbb (by omega) w
  have hfl : ((List.replicate n z).map fun u => [u]).flatten = List.replicate n z := by
    have : ∀ l : List Value, (l.map fun u => [u]).flatten = l := fun l => by
      induction l with
      | nil => rfl
      | cons a l ih => simp [ih]
    exact this _
  refine Step.eff (v := .slice (some ⟨w.heap.size, 0, none⟩) n n) (w' := w.alloc (.cells (madeCells #[z] n) et)) rfl (by simpa [Nat.blt_eq] using hn) hg (fun _ hh => by cases hh) (fun t' hf => ?_) (h _ _ ⟨⟨?_, ?_⟩, ?_, ?_⟩ (by simp) (Ext.alloc _ _) rfl)
  · simp only [execOp, hx.val hf rfl, hy.val hf rfl, Sem.run_bind, hr, Result.andThen_ok, Sem.run_pure]
  · rw [hfl]; simp
  · right
    refine ⟨w.heap.size, n, madeCells #[z] n, by simp, Nat.le_refl _, heap_alloc_new _ _, by simp, by unfold maxLen; omega, by simp [madeCells], ?_⟩
    rw [hfl, toList_madeCells_one]
    simp
  · intro x hx
    simp only [List.mem_map] at hx
    obtain ⟨u, _, rfl⟩ := hx
    rfl
  · simp; exact hl
theorem sMkS (T : Tb X.P) {x y : Operand} {t et : TypeId} {z : Value} {bytes : Nat} (n : Nat) {m : Int}
    (h : ∀ v w', Owns w' w.heap.size v et 1 ((List.replicate n z).map fun u => [u]) → w'.heap.size = w.heap.size + 1 → Ext w w' → v.ownBlock = some w.heap.size → GL X ops l kk ((d, none, v) :: e) w')
    (hm : m = n := by omega) (hb : bytes * n ≤ 140737488355328 := by omega) (hl : n ≤ 140737488355328 := by omega)
    (hg : guardE ops e ⟨some d, .makeSlice t x y, ty, pos, af, g⟩ = some none := by exact rfl)
    (hx : Op1 e none x (.int .i64 m) := by exact Op1.of rfl (fun _ => rfl)) (hy : Op1 e none y (.int .i64 m) := by exact Op1.of rfl (fun _ => rfl)) (ht : T.ty t = some (.slice et) := by exact rfl) (hi : T.inf et = some (z, 1, bytes) := by exact rfl) (hz : z.cells = ⟨[z]⟩ := by exact rfl)
    (hn : Nat.blt d X.n = true := by exact rfl) :
    GL X ops (⟨some d, .makeSlice t x y, ty, pos, af, g⟩ :: l) kk e w := GL.cons (Step.make1 T n hg hx hy hm ht hi hz hb hl hn h)
end
end Go.Vg
namespace Go.Vg
open Go.RowKit
section
variable {X : Cx} {ops : Array Oper} {l : List Oper} {k : List Kt} {e : Env} {w : World} {N : Env → World → Prop} {d : Nat} {c : Option Bool} {ty : TypeId} {pos : String} {af : Array Edge} {g : Option (Nat × Bool)}
theorem Step.eqPN (T : Tb X.P) {xt yt et : TypeId} {x y : Operand} {p : Option Addr} (hg : guardE ops e ⟨some d, .binOp .eql xt x y yt, ty, pos, af, g⟩ = some c)
    (hx : Op1 e c x (.pointer p)) (hy : Op1 e c y (.pointer none)) (ht : T.ty xt = some (.pointer et)) (hn : Nat.blt d X.n = true)
    (h : N ((d, c, .bool p.isNone) :: e) w) : Step X ops ⟨some d, .binOp .eql xt x y yt, ty, pos, af, g⟩ e w N :=
  Step.quiet rfl (by simpa [Nat.blt_eq] using hn) hg (fun _ hh => by cases hh) (fun t hf hc => by
    have hT := T.ok _ _ ht
    have h1 : (eqGuard .eql xt x y (.pointer p) (.pointer none)).run X.P w = .ok () w := by simp [eqGuard]
    have hp : X.P.pointee xt = et := by unfold Program.pointee; rw [hT]
    have h2 := run_eql_pointer_nil (P := X.P) w xt p (by rw [hp]; exact hT)
    simp only [execOp, hx.val hf hc, hy.val hf hc, Sem.run_bind, h1, h2, Result.andThen_ok, Sem.run_pure]) h
theorem sPn (T : Tb X.P) {xt yt et : TypeId} {x y : Operand} {p : Option Addr} (h : GL X ops l k ((d, c, .bool p.isNone) :: e) w) (hg : guardE ops e ⟨some d, .binOp .eql xt x y yt, ty, pos, af, g⟩ = some c := by exact rfl)
    (hx : Op1 e c x (.pointer p) := by exact Op1.of rfl (by first | exact fun _ => rfl | exact fun h => h | exact fun h => bL h)) (hy : Op1 e c y (.pointer none) := by exact Op1.of rfl (fun _ => rfl)) (ht : T.ty xt = some (.pointer et) := by exact rfl) (hn : Nat.blt d X.n = true := by exact rfl) :
    GL X ops (⟨some d, .binOp .eql xt x y yt, ty, pos, af, g⟩ :: l) k e w := GL.cons (Step.eqPN T hg hx hy ht hn h)
end
end Go.Vg
