/- An append, told where the row lies behind it; a drawn region's class of worlds narrowed on the way. -/
import Derived.Test.YtfffblopkaandaaDoorV21
namespace Go.Vg
open Go.RowKit

/-- where a row lies behind an append: where it lay, or in new memory -/
def Own2 (w : World) (v v' : Value) : Prop := v'.ownBlock = v.ownBlock ∨ v'.ownBlock = some w.heap.size
theorem Grew.trans2 {B : Nat} {v v' : Value} {w w1 w2 : World} (h : Grew B v w w1) (ho : Own2 w v v') (k : Grew B v' w1 w2) : Grew B v w w2 := by
  refine ⟨fun w0 hb => k.below _ (h.below _ hb), Nat.le_trans h.size k.size, fun q hq hne => (k.block q (Nat.lt_of_lt_of_le hq h.size) ?_).trans (h.block q hq hne)⟩
  intro e
  rcases ho with ho | ho
  · exact hne (e.trans ho)
  · rw [ho] at e
    simp only [Option.some.injEq] at e
    omega
theorem Own2.refl (w : World) (v : Value) : Own2 w v v := .inl rfl

section
variable {X : Cx} {ops : Array Oper} {l : List Oper} {kk : List Kt} {e : Env} {w : World} {N : Env → World → Prop} {d : Nat} {c : Option Bool} {ty : TypeId} {pos : String} {af : Array Edge} {g : Option (Nat × Bool)}

theorem Step.append2 (T : Tb X.P) {x y : Operand} {t et : TypeId} {v u z : Value} {k bytes B : Nat} {xs ys : List (List Value)}
    (hg : guardE ops e ⟨some d, .call { callee := .builtin .append, args := #[x, y], argTypes := #[t, t] }, ty, pos, af, g⟩ = some none)
    (hx : Op1 e none x v) (hy : Op1 e none y u) (ht : T.ty t = some (.slice et)) (hi : T.inf et = some (z, k, bytes)) (hk : Nat.blt 0 k = true) (hz : z.cells.size = k)
    (hv : Owns w B v et k xs) (hu : Sli w u k ys) (h1 : ∀ y ∈ ys, ∀ c ∈ y, c.oneCell' = true) (hb : (xs.length + ys.length) * bytes ≤ 140737488355328) (hl : xs.length + ys.length ≤ 140737488355328)
    (hB : B ≤ w.heap.size) (hn : Nat.blt d X.n = true)
    (h : ∀ v' w', Owns w' B v' et k (xs ++ ys) → Grew B v w w' → Own2 w v v' → N ((d, none, v') :: e) w') :
    Step X ops ⟨some d, .call { callee := .builtin .append, args := #[x, y], argTypes := #[t, t] }, ty, pos, af, g⟩ e w N := by
  obtain ⟨i, hi1, hi2, hi3, hi4⟩ := T.iok _ _ _ _ hi
  have hT := T.ok _ _ ht
  have hk' : 0 < k := by simpa [Nat.blt_eq] using hk
  rcases hu with ⟨rfl, rfl⟩ | ⟨a, cap, rfl, hs, hc, hyl, hcell, hyb⟩
  · have hr := run_append_owned_none (P := X.P) w B t ty et i k hT hi1 v xs.length xs.flatten hv.1
    refine Step.eff (v := v) (w' := w) rfl (by simpa [Nat.blt_eq] using hn) hg (fun _ hh => by cases hh) (fun t' hf => run_builtin2 (hx.val hf rfl) (hy.val hf rfl) fun cs => ?_) (h v w (by simpa using hv) ⟨fun _ h => h, Nat.le_refl _, fun _ _ _ => rfl⟩ (.inl rfl))
    simp only [builtin, Sem.run_bind, hr, Result.andThen_ok, Sem.run_pure]
  · have hfl := flatten_length ys hyl
    have hnews : ∀ j u, ys.flatten[j]? = some u → w.cell? (a.add j) = some u := fun j u hj => by
      have hj' : j < ys.length * k := by rw [← hfl]; exact (List.getElem?_eq_some_iff.1 hj).1
      have hq : j / k < ys.length := Nat.div_lt_of_lt_mul (by rw [Nat.mul_comm]; exact hj')
      have hyq : ys[j / k]? = some ys[j / k] := List.getElem?_eq_getElem hq
      have hlen : (ys[j / k]).length = k := hyl _ (List.getElem_mem hq)
      have hr' : j % k < (ys[j / k]).length := by rw [hlen]; exact Nat.mod_lt _ hk'
      have hu2 := List.getElem?_eq_getElem hr'
      have e1 : j / k * k + j % k = j := by rw [Nat.mul_comm]; exact Nat.div_add_mod j k
      have h5 := flatten_get ys hyl _ _ hyq _ _ hu2
      rw [e1, hj] at h5
      cases h5
      have := hcell _ _ hyq _ _ hu2
      rwa [e1] at this
    have hone : ∀ u ∈ ys.flatten, u.oneCell' = true := fun u hu => by obtain ⟨y, hy, hu'⟩ := List.mem_flatten.1 hu; exact h1 y hy u hu'
    obtain ⟨v', w', hr, h2, h3, _⟩ := run_append_own (P := X.P) w B t ty et i z k bytes hT hi1 hi2 hi3 hi4 hz hk' v xs.length xs.flatten hv.1 a ys.length cap ys.flatten hfl hnews hone (by unfold maxLen; omega) hb hB
    have hwhere : Own2 w v v' := by
      rcases hv.1.2 with ⟨rfl, hnil⟩ | ⟨gb, cp, cur, rfl, _, hgb, hcp, _, hsz, htk⟩
      · by_cases hm : ys.length = 0
        · have he : ys = [] := List.eq_nil_of_length_eq_zero hm
          subst he
          rcases h2.2 with ⟨rfl, _⟩ | ⟨g2, c2, cur2, rfl, _, hg2, _, _, _, _⟩
          · exact .inl rfl
          · by_cases hlt : g2 < w.heap.size
            · exfalso
              have hr0 : (Builtin.append_ #[t, t] ty #[.slice none 0 0, .slice (some a) 0 cap]).run X.P w = .ok (.slice none 0 0) w := by
                simp [Builtin.append_, run_underlying hT, sizeOf, typeInfo, hi1, Builtin.lenOf, Builtin.firstCells, loadCells, loadCellsFrom]
              rw [List.length_nil, hr0] at hr
              cases hr
            · have hr0 : (Builtin.append_ #[t, t] ty #[.slice none 0 0, .slice (some a) 0 cap]).run X.P w = .ok (.slice none 0 0) w := by
                simp [Builtin.append_, run_underlying hT, sizeOf, typeInfo, hi1, Builtin.lenOf, Builtin.firstCells, loadCells, loadCellsFrom]
              rw [List.length_nil, hr0] at hr
              cases hr
        · have h48 : ys.length * i.bytes ≤ 281474976710656 := by
            rw [hi4]
            have := Nat.mul_le_mul_right bytes (Nat.le_add_left ys.length xs.length)
            omega
          have hr2 := run_append_nil (P := X.P) w t ty et i z hT hi1 hi2 a ys.length cap ys.flatten (by rw [hi3]; exact hfl) hnews (by omega) (by omega) h48
          rw [hr2] at hr
          cases hr
          exact .inr rfl
      · by_cases hroom : xs.length + ys.length ≤ cp
        · have hr2 := run_append_room (P := X.P) w t ty et i hT hi1 gb xs.length cp cur hgb a ys.length cap ys.flatten (by rw [hi3]; exact hfl) hnews hone hroom (by rw [hi3, hfl, hsz, ← Nat.add_mul]; exact Nat.mul_le_mul_right _ hroom)
          rw [hr2] at hr
          cases hr
          exact .inl rfl
        · have holds : ∀ j u, xs.flatten[j]? = some u → w.cell? ((⟨gb, 0, none⟩ : Addr).add j) = some u := hv.1.cells (g := gb) rfl
          have hr2 := run_append_grow (P := X.P) w t ty et i z hT hi1 hi2 ⟨gb, 0, none⟩ xs.length cp xs.flatten (by rw [hi3]; exact hv.1.1) holds a ys.length cap ys.flatten (by rw [hi3]; exact hfl) hnews (by omega) (by omega) (growslice_fits (by omega) (by rw [hi4]; exact hb))
          rw [hr2] at hr
          cases hr
          exact .inr rfl
    have hown : Owns w' B v' et k (xs ++ ys) := by
      refine ⟨?_, ?_, by simpa using hl⟩
      · rw [List.length_append, List.flatten_append]; exact h2
      · intro x hx
        rcases List.mem_append.1 hx with hx | hx
        · exact hv.2.1 x hx
        · exact hyl x hx
    refine Step.eff (v := v') (w' := w') rfl (by simpa [Nat.blt_eq] using hn) hg (fun _ hh => by cases hh) (fun t' hf => run_builtin2 (hx.val hf rfl) (hy.val hf rfl) fun cs => ?_)
      (h v' w' hown ⟨fun w0 hb0 => hb0.grown h3 hB (fun k hk => by
        rcases hv.1.2 with ⟨rfl, _⟩ | ⟨g, cap, cur, rfl, hBg, _⟩
        · simp [Value.ownBlock] at hk
        · simp [Value.ownBlock] at hk; omega), h3.size, h3.block⟩ hwhere)
    simp only [builtin, Sem.run_bind, hr, Result.andThen_ok, Sem.run_pure]
theorem sApp2 (T : Tb X.P) {x y : Operand} {t et : TypeId} {v u z : Value} {q bytes B : Nat} {xs ys : List (List Value)} (hv : Owns w B v et q xs) (hu : Sli w u q ys)
    (h : ∀ v' w', Owns w' B v' et q (xs ++ ys) → Grew B v w w' → Own2 w v v' → GL X ops l kk ((d, none, v') :: e) w')
    (h1 : ∀ y ∈ ys, ∀ c ∈ y, c.oneCell' = true := by intro y hy c hc; simp only [List.mem_cons, List.not_mem_nil, or_false] at hy; subst hy; simp only [List.mem_cons, List.not_mem_nil, or_false] at hc; rcases hc with rfl <;> rfl)
    (hg : guardE ops e ⟨some d, .call { callee := .builtin .append, args := #[x, y], argTypes := #[t, t] }, ty, pos, af, g⟩ = some none := by exact rfl)
    (hx : Op1 e none x v := by exact Op1.of rfl (fun _ => rfl)) (hy : Op1 e none y u := by exact Op1.of rfl (fun _ => rfl)) (ht : T.ty t = some (.slice et) := by exact rfl) (hi : T.inf et = some (z, q, bytes) := by exact rfl) (hk : Nat.blt 0 q = true := by exact rfl) (hz : z.cells.size = q := by exact rfl) (hn : Nat.blt d X.n = true := by exact rfl)
    (hb : (xs.length + ys.length) * bytes ≤ 140737488355328 := by simp only [List.length_map, List.length_append, List.length_cons, List.length_nil, List.length_take, List.length_drop]; omega)
    (hl : xs.length + ys.length ≤ 140737488355328 := by simp only [List.length_map, List.length_append, List.length_cons, List.length_nil, List.length_take, List.length_drop]; omega)
    (hB : B ≤ w.heap.size := by omega) :
    GL X ops (⟨some d, .call { callee := .builtin .append, args := #[x, y], argTypes := #[t, t] }, ty, pos, af, g⟩ :: l) kk e w := GL.cons (Step.append2 T hg hx hy ht hi hk hz hv hu h1 hb hl hB hn h)
end

theorem wpAnyS_mono {ρ : Option Nat} {P : Program} {ops : Array Oper} {Q : Act → World → Prop} {S S' : World → Prop} (h : ∀ w, S' w → S w) : ∀ (fuel : Nat) (listed : Array Bool) (a : Act) (w : World), wpAnyS ρ P ops Q S' fuel listed a w → wpAnyS ρ P ops Q S fuel listed a w
  | 0, _, _, _, hh => hh
  | fuel + 1, _, _, _, hh => ⟨hh.1, fun i hi => wpOpIn_mono' (fun _ _ hk => ⟨h _ hk.1, wpAnyS_mono h fuel _ _ _ hk.2⟩) (hh.2 i hi)⟩
/-- from here on the worlds are of a narrower class -/
theorem GD.change {X : Cx} {ops : Array Oper} {S : World → Prop} (S' : World → Prop) {d : List Nat} {k : List Kt} {e : Env} {w : World} (hS : ∀ w, S' w → S w) (hw : S' w) (h : GD X ops S' d k e w) : GD X ops S d k e w := by
  intro fuel hf t ht _
  exact wpAnyS_mono hS fuel _ _ _ (h fuel hf t ht hw)
/-- ways through a drawn region that meet, each with its own class of worlds -/
theorem GD.joinC {X : Cx} {ops : Array Oper} {S : World → Prop} {k : List Kt} {e : Env} {w : World} {d : List Nat} {α : Type} (d' : List Nat) (E : α → Env) (W : α → World → World → Prop) (tail : ∀ x w1 w', W x w1 w' → GD X ops (Ext w1) d' k (E x) w')
    (front : (∀ (x : α) (w1 w' : World) (e' : Env) (d2 : List Nat), mark ops.size d2 = mark ops.size d' → d2.length = d'.length → Sub (E x) e' → W x w1 w' → GD X ops (Ext w1) d2 k e' w') → GD X ops S d k e w) : GD X ops S d k e w :=
  front fun x w1 w' _ _ h1 h2 hs hw => GD.sub h1 h2 hs (tail x w1 w' hw)
end Go.Vg
