/- A call that the model answers by itself, whatever it draws; math.Floor at any float. -/
import Derived.Test.YtbnckhfkkoncbaaV47
namespace Go.Vg
open Go.RowKit Ieee
section
variable {X : Cx} {ops : Array Oper} {l : List Oper} {k : List Kt} {e : Env} {w : World} {N : Env → World → Prop} {d : Nat} {ty : TypeId} {pos : String} {af : Array Edge} {g : Option (Nat × Bool)}
theorem Step.extW {f : FuncId} {args : Array Operand} {ats : Array TypeId} {lo : List Operand} {vs : List Value} {v : Value} {w' : World}
    (hg : guardE ops e ⟨some d, .call { callee := .value (.func f), args := args, argTypes := ats }, ty, pos, af, g⟩ = some none)
    (ha : args = ⟨lo⟩) (hvs : OpL e none lo vs) (hr : (callFunc f ⟨vs⟩).run X.P w = .ok (.value v) w') (hn : Nat.blt d X.n = true)
    (h : N ((d, none, v) :: e) w') : Step X ops ⟨some d, .call { callee := .value (.func f), args := args, argTypes := ats }, ty, pos, af, g⟩ e w N :=
  Step.eff rfl (by simpa [Nat.blt_eq] using hn) hg (fun _ hh => by cases hh) (fun t hf => by
    have := hvs.map (ds := X.ds) hf rfl
    subst ha
    have h2 : (Array.mk lo).map (Act.mk t X.ds).eval = ⟨vs⟩ := by simp [this]
    simp only [execOp, resolve, h2, Act.eval, Deferred.ofValue, Sem.run_bind, Sem.run_pure, Result.andThen_ok, invoke, Array.empty_append, Array.append_empty, hr]) h
end
theorem inR_num {lo hi b n : Nat} (h1 : double.read lo = .number true n (-16)) (h2 : double.read hi = .number false n (-16)) (hb : inR lo hi b = true) : ∃ s m i, double.read b = .number s m i := by
  unfold inR at hb
  simp only [Bool.and_eq_true, Bool.or_eq_true, beq_iff_eq] at hb
  obtain ⟨hb1, hb2⟩ := hb
  have hb1 : (double.read b).order (double.read lo) = some .gt ∨ (double.read b).order (double.read lo) = some .eq := hb1
  have hb2 : (double.read b).order (double.read hi) = some .lt ∨ (double.read b).order (double.read hi) = some .eq := hb2
  rw [h1] at hb1
  rw [h2] at hb2
  cases hr : double.read b with
  | nan s f => rw [hr] at hb1; simp [Datum.order] at hb1
  | infinity s =>
    rw [hr] at hb1 hb2
    cases s <;> simp [Datum.order] at hb1 hb2
  | number s m i => exact ⟨s, m, i, rfl⟩
theorem read_hi (s : Bool) (R : Nat) (h1 : 9218868437227405312 ≤ R) (h2 : R < 9223372036854775808) : ∀ s' m e, double.read (double.word s R) ≠ .number s' m e := by
  intro s' m e
  unfold Format.read Format.word
  rw [d_bin, d_inf, d_sw]
  have hR : (if s then 9223372036854775808 + R else R) % 9223372036854775808 = R := by cases s <;> simp <;> omega
  dsimp only
  rw [hR, if_neg (by omega), if_neg (by omega)]
  split <;> simp
theorem floor_any (P : Program) (b : Nat) (w : World) (lo hi n : Nat) (h1 : double.read lo = .number true n (-16)) (h2 : double.read hi = .number false n (-16)) (hn : n < 9007199254740992) :
    ∃ r w', (Extern.MathFloor.toIntegral "math.archFloor" .down #[Fl b]).run P w = .ok (Fl r) w' ∧ Ext w w' ∧ (inR lo hi r = true → ∃ m, IsI r m) := by
  have key : ∀ dd, FloatKind.f64.decode b = dd → (∀ s t, dd ≠ .nan s t) → (Extern.MathFloor.toIntegral "math.archFloor" .down #[Fl b]).run P w = .ok (Fl (FloatKind.f64.encode (dd.integral .down))) w := by
    intro dd hd hne
    delta Extern.MathFloor.toIntegral
    show Sem.run P (Extern.MathFloor.toIntegral.match_1 (fun _ => Sem Value) (FloatKind.f64.decode b) _ _) w = _
    rw [hd]
    cases dd with
    | nan s t => exact absurd rfl (hne s t)
    | _ => rfl
  cases hd : FloatKind.f64.decode b with
  | number s m i =>
    refine ⟨_, w, key _ hd (by simp), Ext.refl _, fun hr => ?_⟩
    have hr' : inR lo hi (double.nearest s (Toward.down.cut s (m <<< i.toNat) (-i).toNat) 0) = true := hr
    show ∃ m', IsI (double.nearest s (Toward.down.cut s (m <<< i.toNat) (-i).toNat) 0) m'
    generalize Toward.down.cut s (m <<< i.toNat) (-i).toNat = c at hr' ⊢
    rcases Nat.lt_or_ge c 9007199254740992 with h | h
    · exact ⟨_, near_exact _ _ _ _ (isI_mk s c h) (by rw [signed_zero]; cases s <;> simp <;> omega)⟩
    · rw [near_big h1 h2 h hn] at hr'; cases hr'
  | infinity s =>
    refine ⟨_, w, key _ hd (by simp), Ext.refl _, fun hr => ?_⟩
    exfalso
    obtain ⟨s', m, i, hn'⟩ := inR_num h1 h2 hr
    exact read_hi s 9218868437227405312 (by omega) (by omega) s' m i hn'
  | nan s t =>
    have hself : inR lo hi b = true → ∃ m, IsI b m := by
      intro hr
      exfalso
      obtain ⟨s', m, i, hn'⟩ := inR_num h1 h2 hr
      have hd' : double.read b = .nan s t := hd
      rw [hd'] at hn'; cases hn'
    have hq : inR lo hi (FloatKind.f64.encode (.nan s (FloatKind.f64.format.quiet t))) = true → ∃ m, IsI (FloatKind.f64.encode (.nan s (FloatKind.f64.format.quiet t))) m := by
      intro hr
      exfalso
      obtain ⟨s', m, i, hn'⟩ := inR_num h1 h2 hr
      have hlt := Nat.mod_lt (double.quiet t) (show 0 < 4503599627370496 by decide)
      exact read_hi s (9218868437227405312 + double.quiet t % 4503599627370496) (by omega) (by omega) s' m i hn'
    delta Extern.MathFloor.toIntegral
    show ∃ r w', Sem.run P (Extern.MathFloor.toIntegral.match_1 (fun _ => Sem Value) (FloatKind.f64.decode b) _ _) w = .ok (Fl r) w' ∧ _
    rw [hd]
    show ∃ r w', Sem.run P (if FloatKind.f64.format.quiet t = t then pure (Value.float .f64 b) else do
      let kept ← choose (.extern "math.Floor,Ceil,Trunc,RoundToEven.signallingNaN kept" 2)
      pure (Value.float .f64 (if kept == 1 then b else FloatKind.f64.encode (.nan s (FloatKind.f64.format.quiet t))))) w = .ok (Fl r) w' ∧ _
    by_cases hqt : FloatKind.f64.format.quiet t = t
    · rw [if_pos hqt]
      exact ⟨b, w, rfl, Ext.refl _, hself⟩
    · rw [if_neg hqt, Sem.run_bind, run_choose_drew]
      generalize hK : Question.extern "math.Floor,Ceil,Trunc,RoundToEven.signallingNaN kept" 2 = q
      by_cases hf : q.forced
      · rw [if_pos hf]
        exact ⟨_, w, rfl, Ext.refl _, hq⟩
      · rw [if_neg hf]
        generalize q.cut (w.tape w.drawn q) = c
        refine ⟨_, w.drew, rfl, Ext.drew w, ?_⟩
        by_cases hc : (c == 1) = true
        · rw [if_pos hc]; exact hself
        · rw [if_neg hc]; exact hq
end Go.Vg
