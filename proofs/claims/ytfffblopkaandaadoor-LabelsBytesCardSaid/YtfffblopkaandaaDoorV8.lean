/- Calls that only add memory, guarded or not; slices cut; bytes and texts. -/
import Derived.Test.YtfffblopkaandaaDoorV7
namespace Go.Vg
open Go.RowKit

def OpL (e : Env) (c : Option Bool) : List Operand → List Value → Prop
  | [], [] => True
  | x :: r, v :: vs => Op1 e c x v ∧ OpL e c r vs
  | _, _ => False
theorem OpL.nil {e : Env} {c : Option Bool} : OpL e c [] [] := trivial
theorem OpL.cons {e : Env} {c : Option Bool} {x : Operand} {v : Value} {l : List Operand} {vs : List Value} (h : Op1 e c x v) (k : OpL e c l vs) : OpL e c (x :: l) (v :: vs) := ⟨h, k⟩
theorem OpL.map {n : Nat} {t : Array Value} {ds : List Deferred} {e : Env} {c : Option Bool} (hf : Fits n e t) (hc : cv c = true) : ∀ {l : List Operand} {vs : List Value}, OpL e c l vs → l.map (Act.mk t ds).eval = vs
  | [], [], _ => rfl
  | x :: r, v :: vs, h => by simp only [List.map_cons, OpL.map hf hc h.2, h.1.val hf hc]
  | [], _ :: _, h => h.elim
  | _ :: _, [], h => h.elim

section steps
variable {X : Cx} {ops : Array Oper} {e : Env} {w : World} {N : Env → World → Prop} {d : Nat} {c : Option Bool} {ty : TypeId} {pos : String} {af : Array Edge} {g : Option (Nat × Bool)}

/-- a call, guarded or not, that hands back v and only adds memory -/
theorem Step.callX {f : FuncId} {args : Array Operand} {ats : Array TypeId} {l : List Operand} {vs : List Value} {v : Value}
    (hg : guardE ops e ⟨some d, .call { callee := .value (.func f), args := args, argTypes := ats }, ty, pos, af, g⟩ = some c)
    (ha : args = ⟨l⟩) (hvs : OpL e c l vs) (hf : Callable X.P f) (hn : Nat.blt d X.n = true) (hc : cv c = true → Ret X.P f ⟨vs⟩ w fun r w' => r = v ∧ Ext w w')
    (h : ∀ w', Ext w w' → N ((d, c, v) :: e) w') : Step X ops ⟨some d, .call { callee := .value (.func f), args := args, argTypes := ats }, ty, pos, af, g⟩ e w N := by
  intro t K Q hft hK
  rw [guardE_wanted hft hg]
  cases hcv : cv c with
  | false =>
    rw [if_neg (by simp)]
    have := hK _ _ _ (h w (Ext.refl w)) (hft.put (by simpa [Nat.blt_eq] using hn) c v)
    simp only [gval, hcv] at this
    exact this
  | true =>
    rw [if_pos rfl]
    refine ⟨fun _ _ => trivial, ?_⟩
    rw [Oper.semAt_eq _ _ _ (fun _ hh => by cases hh)]
    have h1 := hvs.map (ds := X.ds) hft hcv
    subst ha
    have h2 : (Array.mk l).map (Act.mk t X.ds).eval = ⟨vs⟩ := by simp [h1]
    have hr : (execOp (Act.mk t X.ds).eval ⟨some d, .call { callee := .value (.func f), args := ⟨l⟩, argTypes := ats }, ty, pos, af, g⟩).run X.P w = .ok (.enter f ⟨vs⟩) w := by
      simp only [execOp, resolve, h2, Act.eval, Deferred.ofValue, Sem.run_bind, Sem.run_pure, Result.andThen_ok, invoke, Array.empty_append, Array.append_empty, run_callFunc hf]
    show Oper.uponIn _ _ _ _ _ _ _ ((execOp (Act.mk t X.ds).eval _).run X.P w)
    rw [hr]
    refine ⟨fun h => by simp [Fence.wide] at h, callsW (Calls.mono (hc hcv) ?_)⟩
    rintro en w' ⟨r, rfl, rfl, hx⟩
    show K (Act.put _ (some d) r) w'
    have := hK _ _ _ (h w' hx) (hft.put (by simpa [Nat.blt_eq] using hn) c r)
    simp only [gval, hcv] at this
    exact this

/-- a closure of the text's own is called -/
theorem Step.callC {f : FuncId} {x : Operand} {args : Array Operand} {ats : Array TypeId} {l : List Operand} {vs cap : List Value} {R : Value → World → Prop}
    (hg : guardE ops e ⟨some d, .call { callee := .value x, args := args, argTypes := ats }, ty, pos, af, g⟩ = some none)
    (hx : Op1 e none x (.func (.func f) #[] ⟨cap⟩)) (ha : args = ⟨l⟩) (hvs : evs e l = some vs) (hf : Callable X.P f)
    (hn : Nat.blt d X.n = true) (hc : Ret X.P f ⟨vs ++ cap⟩ w R)
    (h : ∀ v w', R v w' → N ((d, none, v) :: e) w') : Step X ops ⟨some d, .call { callee := .value x, args := args, argTypes := ats }, ty, pos, af, g⟩ e w N :=
  Step.call rfl (by simpa [Nat.blt_eq] using hn) hg (fun _ hh => by cases hh) (fun t hft => by
    have h1 := evs_map (ds := X.ds) hft hvs
    subst ha
    have h2 : (Array.mk l).map (Act.mk t X.ds).eval = ⟨vs⟩ := by simp [h1]
    have h3 : (Act.mk t X.ds).eval x = .func (.func f) #[] ⟨cap⟩ := hx.val hft rfl
    have h4 : (⟨vs⟩ : Array Value) ++ ⟨cap⟩ = ⟨vs ++ cap⟩ := by simp
    simp only [execOp, resolve, h2, h3, Deferred.ofValue, Sem.run_bind, Sem.run_pure, Result.andThen_ok, invoke, Array.empty_append, h4, run_callFunc hf]) hc h

/-- a slice's part -/
def subS (v : Value) (k l h : Nat) : Value :=
  match v with
  | .slice a _ cap => .slice (if cap = l then a else a.map (·.add (l * k))) (h - l) (cap - l)
  | v => v
theorem Sli.sub {w : World} {v : Value} {k : Nat} {xs : List (List Value)} (hs : Sli w v k xs) {l h : Nat} (hl : l ≤ h) (hh : h ≤ xs.length) : Sli w (subS v k l h) k ((xs.drop l).take (h - l)) := by
  have hlen : ((xs.drop l).take (h - l)).length = h - l := by simp; omega
  rcases hs with ⟨rfl, rfl⟩ | ⟨a, cap, rfl, h2, h3, h4, h5, h6⟩
  · simp at hh
    obtain rfl : h = 0 := hh
    obtain rfl : l = 0 := by omega
    exact .inl ⟨by simp [subS], by simp⟩
  · refine .inr ⟨if cap = l then a else a.add (l * k), cap - l, ?_, ?_, by omega, ?_, ?_, by omega⟩
    · rw [hlen]; simp only [subS]; split <;> rfl
    · split
      · exact h2
      · exact Addr.add_spot a h2 _
    · intro x hx
      exact h4 x (List.drop_subset _ _ (List.take_subset _ _ hx))
    · intro i x hx j u hu
      have hi : i < h - l := by
        have := (List.getElem?_eq_some_iff.1 hx).1
        omega
      rw [List.getElem?_take_of_lt hi, List.getElem?_drop] at hx
      have := h5 _ x hx j u hu
      rw [if_neg (by omega), Addr.add_add a h2]
      rw [show l * k + (i * k + j) = (l + i) * k + j by rw [Nat.add_mul]; omega]
      exact this
theorem subS_cells {w : World} {v : Value} {k : Nat} {xs : List (List Value)} (hs : Sli w v k xs) (l h : Nat) : (subS v k l h).cells = ⟨[subS v k l h]⟩ := by
  obtain ⟨a, cap, rfl, _⟩ := hs.len; rfl

theorem run_sliceV {P : Program} {st et : TypeId} {v z : Value} {k by_ : Nat} {xs : List (List Value)} (T : Tb P) (ht : T.ty st = some (.slice et)) (hz : T.inf et = some (z, k, by_)) {w0 : World} (hs : Sli w0 v k xs)
    (w : World) {a b : Nat} (h1 : a ≤ b) (h2 : b ≤ xs.length) (l h : Option Value) (hl1 : ∀ i, l = some i → i = .int .i64 a) (hl2 : l = none → a = 0) (hh1 : ∀ j, h = some j → j = .int .i64 b) (hh2 : h = none → b = xs.length) :
    (Instr.sliceAt st v l h none).run P w = .ok (subS v k a b) w := by
  obtain ⟨p, cap, rfl, hcap⟩ := hs.len
  have hT := T.ok _ _ ht
  have hb1 : ∀ y code, (b : Nat) ≤ y → (Instr.sliceBound (.int .i64 b) y code).run P w = .ok b w := fun y code hy => by
    have := run_sliceBound (P := P) w .i64 (b : Int) y code (by omega) (by omega)
    simpa using this
  have ha1 : ∀ y code, (a : Nat) ≤ y → (Instr.sliceBound (.int .i64 a) y code).run P w = .ok a w := fun y code hy => by
    have := run_sliceBound (P := P) w .i64 (a : Int) y code (by omega) (by omega)
    simpa using this
  simp only [Instr.sliceAt, Sem.run_bind, run_underlying hT, Result.andThen_ok, Instr.slice, Instr.sliceBounds, Sem.run_pure]
  cases l with
  | none =>
    obtain rfl := hl2 rfl
    cases h with
    | none =>
      obtain rfl := hh2 rfl
      simp [run_sizeOf hz, subS]
    | some j =>
      obtain rfl := hh1 j rfl
      simp [hb1 cap _ (by omega), run_sizeOf hz, subS]
  | some i =>
    obtain rfl := hl1 i rfl
    cases h with
    | none =>
      obtain rfl := hh2 rfl
      simp [ha1 xs.length _ h1, run_sizeOf hz, subS]
    | some j =>
      obtain rfl := hh1 j rfl
      simp [hb1 cap _ (by omega), ha1 b _ h1, run_sizeOf hz, subS]

theorem Step.sliceVlh (T : Tb X.P) {x i j : Operand} {st et : TypeId} {v z : Value} {k by_ : Nat} {m n : Int} {xs : List (List Value)} (a b : Nat)
    (hg : guardE ops e ⟨some d, .slice st x (some i) (some j) none, ty, pos, af, g⟩ = some c)
    (hx : Op1 e c x v) (hlo : Op1 e c i (.int .i64 m)) (hhi : Op1 e c j (.int .i64 n)) (ht : T.ty st = some (.slice et)) (hz : T.inf et = some (z, k, by_))
    (hs : cv c = true → ∃ w, Sli w v k xs) (hk : cv c = true → m = a ∧ n = b ∧ a ≤ b ∧ b ≤ xs.length) (hn : Nat.blt d X.n = true)
    (h : N ((d, c, subS v k a b) :: e) w) : Step X ops ⟨some d, .slice st x (some i) (some j) none, ty, pos, af, g⟩ e w N :=
  Step.quiet rfl (by simpa [Nat.blt_eq] using hn) hg (fun _ hh => by cases hh) (fun t hf hc => by
    obtain ⟨rfl, rfl, h1, h2⟩ := hk hc
    obtain ⟨w0, hs⟩ := hs hc
    have h3 := run_sliceV T ht hz hs w h1 h2 (some (.int .i64 a)) (some (.int .i64 b)) (fun _ hh => by cases hh; rfl) (fun hh => by cases hh) (fun _ hh => by cases hh; rfl) (fun hh => by cases hh)
    simp only [execOp, hx.val hf hc, hlo.val hf hc, hhi.val hf hc, Option.map_some, Sem.run_bind, Option.map_none, h3, Result.andThen_ok, Sem.run_pure]) h
theorem Step.sliceVl (T : Tb X.P) {x i : Operand} {st et : TypeId} {v z : Value} {k by_ : Nat} {m : Int} {xs : List (List Value)} (a : Nat)
    (hg : guardE ops e ⟨some d, .slice st x (some i) none none, ty, pos, af, g⟩ = some c)
    (hx : Op1 e c x v) (hlo : Op1 e c i (.int .i64 m)) (ht : T.ty st = some (.slice et)) (hz : T.inf et = some (z, k, by_))
    (hs : cv c = true → ∃ w, Sli w v k xs) (hk : cv c = true → m = a ∧ a ≤ xs.length) (hn : Nat.blt d X.n = true)
    (h : N ((d, c, subS v k a xs.length) :: e) w) : Step X ops ⟨some d, .slice st x (some i) none none, ty, pos, af, g⟩ e w N :=
  Step.quiet rfl (by simpa [Nat.blt_eq] using hn) hg (fun _ hh => by cases hh) (fun t hf hc => by
    obtain ⟨rfl, h1⟩ := hk hc
    obtain ⟨w0, hs⟩ := hs hc
    have h3 := run_sliceV T ht hz hs w h1 (Nat.le_refl _) (some (.int .i64 a)) none (fun _ hh => by cases hh; rfl) (fun hh => by cases hh) (fun _ hh => by cases hh) (fun _ => rfl)
    simp only [execOp, hx.val hf hc, hlo.val hf hc, Option.map_some, Sem.run_bind, Option.map_none, h3, Result.andThen_ok, Sem.run_pure]) h
theorem Step.sliceVh (T : Tb X.P) {x j : Operand} {st et : TypeId} {v z : Value} {k by_ : Nat} {n : Int} {xs : List (List Value)} (b : Nat)
    (hg : guardE ops e ⟨some d, .slice st x none (some j) none, ty, pos, af, g⟩ = some c)
    (hx : Op1 e c x v) (hhi : Op1 e c j (.int .i64 n)) (ht : T.ty st = some (.slice et)) (hz : T.inf et = some (z, k, by_))
    (hs : cv c = true → ∃ w, Sli w v k xs) (hk : cv c = true → n = b ∧ b ≤ xs.length) (hn : Nat.blt d X.n = true)
    (h : N ((d, c, subS v k 0 b) :: e) w) : Step X ops ⟨some d, .slice st x none (some j) none, ty, pos, af, g⟩ e w N :=
  Step.quiet rfl (by simpa [Nat.blt_eq] using hn) hg (fun _ hh => by cases hh) (fun t hf hc => by
    obtain ⟨rfl, h1⟩ := hk hc
    obtain ⟨w0, hs⟩ := hs hc
    have h3 := run_sliceV T ht hz hs w (Nat.zero_le b) h1 none (some (.int .i64 b)) (fun _ hh => by cases hh) (fun _ => rfl) (fun _ hh => by cases hh; rfl) (fun hh => by cases hh)
    simp only [execOp, hx.val hf hc, hhi.val hf hc, Option.map_some, Sem.run_bind, Option.map_none, h3, Result.andThen_ok, Sem.run_pure]) h
end steps
end Go.Vg
