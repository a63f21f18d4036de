/- FuncsQuantile: whatever the numbers and shares, the law of quantiles returns true and leaves what came in alone. Conditions: none beyond the statement's own. -/
import Derived.Test.YtbnckhfkkoncbaaP03
set_option linter.unusedSimpArgs false
set_option linter.unusedVariables false
set_option linter.unusedSectionVars false
section
namespace Go.Vg
open Go.RowKit
section
variable {X : Cx} {ops : Array Oper} {l : List Oper} {k : List Kt} {e : Env} {w : World} {N : Env → World → Prop} {d : Nat} {c : Option Bool} {ty : TypeId} {pos : String} {af : Array Edge} {g : Option (Nat × Bool)}
theorem Step.callG {f : FuncId} {args : Array Operand} {ats : Array TypeId} {l : List Operand} {vs : List Value} {Q : Value → World → Prop}
    (hg : guardE ops e ⟨some d, .call { callee := .value (.func f), args := args, argTypes := ats }, ty, pos, af, g⟩ = some c) (hcv : cv c = true)
    (ha : args = ⟨l⟩) (hvs : OpL e c l vs) (hf : Callable X.P f) (hn : Nat.blt d X.n = true) (hc : Ret X.P f ⟨vs⟩ w Q)
    (h : ∀ v w', Q v w' → N ((d, c, v) :: e) w') : Step X ops ⟨some d, .call { callee := .value (.func f), args := args, argTypes := ats }, ty, pos, af, g⟩ e w N := by
  intro t K Q hft hK
  rw [guardE_wanted hft hg, hcv]
  rw [if_pos rfl]
  refine ⟨fun _ _ => trivial, ?_⟩
  rw [Oper.semAt_eq _ _ _ (fun _ hh => by cases hh)]
  have h1 := hvs.map (ds := X.ds) hft hcv
  subst ha
  have h2 : (Array.mk l).map (Act.mk t X.ds).eval = ⟨vs⟩ := by simp [h1]
  have hr : (execOp (Act.mk t X.ds).eval ⟨some d, .call { callee := .value (.func f), args := ⟨l⟩, argTypes := ats }, ty, pos, af, g⟩).run X.P w = .ok (.enter f ⟨vs⟩) w := by
    simp only [execOp, resolve, h2, Act.eval, Deferred.ofValue, Sem.run_bind, Sem.run_pure, Result.andThen_ok, invoke, Array.empty_append, Array.append_empty, run_callFunc hf]
  show Oper.uponIn _ _ _ _ _ _ _ ((execOp (Act.mk t X.ds).eval _).run X.P w)
  rw [hr]
  refine ⟨fun h => by simp [Fence.wide] at h, callsW (Calls.mono hc ?_)⟩
  rintro en w' ⟨r, rfl, hq⟩
  show K (Act.put _ (some d) r) w'
  have := hK _ _ _ (h r w' hq) (hft.put (by simpa [Nat.blt_eq] using hn) c r)
  simp only [gval, hcv] at this
  exact this
theorem sCallG {f : FuncId} {args : Array Operand} {ats : Array TypeId} {lo : List Operand} {vs : List Value} {Q : Value → World → Prop} (hf : Callable X.P f) (hc : Ret X.P f ⟨vs⟩ w Q)
    (h : ∀ v w', Q v w' → GL X ops l k ((d, c, v) :: e) w') (hg : guardE ops e ⟨some d, .call { callee := .value (.func f), args := args, argTypes := ats }, ty, pos, af, g⟩ = some c := by exact rfl) (hcv : cv c = true := by exact rfl)
    (ha : args = ⟨lo⟩ := by exact rfl) (hvs : OpL e c lo vs := by repeat (first | exact OpL.nil | refine OpL.cons (Op1.of rfl (by first | exact fun _ => rfl | exact fun h => h | exact fun h => bL h | exact fun h => bL (bL h) | exact fun h => bL (bL (bL h)))) ?_)) (hn : Nat.blt d X.n = true := by exact rfl) :
    GL X ops (⟨some d, .call { callee := .value (.func f), args := args, argTypes := ats }, ty, pos, af, g⟩ :: l) k e w := GL.cons (Step.callG hg hcv ha hvs hf hn hc h)
end
end Go.Vg
end
section
open Go Go.Vg Go.RowKit Go.Proofs Go.Proofs.Ytbnckhfkkoncbaa
namespace Go.Proofs.Ytbnckhfkkoncbaa

def iC (n : Int) : List Value := [.int .i64 n]
/-- what whole number a float is -/
def wh (b : Nat) : Int := (floatToIntVal .f64 b .i64).getD 0
theorem wh_I {b : Nat} {n : Int} (h : IsI b n) (h1 : n.natAbs ≤ 1000000) : wh b = n := by
  unfold wh
  rw [f2i_isI h (by omega) (by omega)]; rfl
set_option maxHeartbeats 4000000 in
theorem quantile_law (v0 : Value) (ks : List Int) (a b : Int) (w : World) (h0 : Sli w v0 1 (ks.map iC)) :
    Ret Try.prog 4 ⟨[v0, .int .i64 a, .int .i64 b]⟩ w fun r w' => r = .bool true ∧ Ext w w' := by
  have hb0 := Sli.bound h0
  have hl0 : (ks.map iC).length = ks.length := List.length_map ..
  rw [hl0] at hb0
  refine ret_of_G Try.func4 rfl Try.ntmps4 rfl ?_
  simp only [argEnv]
  refine rn ?_
  refine (G.loop (fun x : Nat × Value × List Nat => [(0, none, v0), (1, none, .int .i64 a), (2, none, .int .i64 b), (7, none, x.2.1), (8, none, .int .i64 x.1)]) (fun x W => Ext w W ∧ x.1 ≤ ks.length ∧ x.1 ≤ 60 ∧ x.2.2.length = x.1 ∧ FlO W w.heap.size x.2.1 x.2.2 ∧ ∀ y ∈ x.2.2, IsI y (wh y) ∧ (wh y).natAbs ≤ 1000000) (fun x => 60 - x.1) (0, .slice none 0 0, []) (by repeat (first | exact Sub.nil _ | refine Sub.cons rfl ?_)) ⟨Ext.refl _, by simp, by simp, rfl, Owns.nil _ _ _ _, by simp⟩ ?_)
  rintro ⟨k, u, fs⟩ W ⟨hx, hk, hk2, hf, hu, hI⟩
  simp only at hk hk2 hf hu hI ⊢
  have h0W := h0.to hx
  refine rn ?_
  rw [hl0]
  refine rn ?_
  first | refine G.condD rfl (fun hc => ?_) (fun hc => ?_) | refine G.condN rfl (fun hc => ?_) (fun hc => ?_) | refine G.cond rfl (fun hc => ?_) (fun hc => ?_)
  · have hc : (k : Int) < ks.length ∧ (k : Int) < 60 := by simpa using hc
    have hlt : k < ks.length := by omega
    have hget : (ks.map iC)[k]? = some (iC ks[k]) := by simp [hlt]
    generalize ks[k] = n at hget
    have hn1 := Int.emod_nonneg n (b := 2000001) (by omega)
    have hn2 := Int.emod_lt_of_pos n (b := 2000001) (by omega)
    try (first | refine gl tb ?_ | refine gg tb ?_ | refine ll tb ?_ | refine lg tb ?_); repeat ((first | refine G.condT rfl ?_ | refine G.condF rfl ?_ | refine sFa tb ?_ | refine sLd tb ?_ | refine sLa tb ?_ | refine sLen tb ?_ | refine sFd tb ?_ | refine sBd tb ?_ | refine sIa tb k ?_); try (first | refine gl tb ?_ | refine gg tb ?_ | refine ll tb ?_ | refine lg tb ?_))
    refine sCall c9 (within_ok n 2000001 W (by omega) (by omega)) ?_
    rintro _ w2 ⟨rfl, hw2⟩
    obtain rfl : W = w2 := hw2.symm
    refine rn ?_
    refine sAd tb ?_
    refine rn ?_
    refine GL.cons (Step.i2f tb rfl (Op1.of rfl (by first | exact fun _ => rfl | exact fun h => h | exact fun h => bL h | exact fun h => bL (bL h) | exact fun h => bL (bL (bL h)))) rfl rfl rfl rfl ?_)
    have hfI := ofInt_isI (n % 2000001 - 1000000) (by omega)
    have hfw := wh_I hfI (by omega)
    generalize floatOfInt .f64 (n % 2000001 - 1000000) = fb at hfI hfw
    refine sBs' tb [fC fb] ?_ (hkl := fLen [fb])
    intro v3 w3 ho3 hs3 hx3
    have hx03 := hx.trans hx3
    refine sApp tb (hu.to hx3) ho3.sli ?_ (h1 := f1 [fb]) (hB := hx03.size) (hb := by simp only [List.length_map, List.length_cons, List.length_nil]; omega) (hl := by simp only [List.length_map, List.length_cons, List.length_nil]; omega)
    intro v4 w4 ho4 hg4
    refine rn ?_
    refine sAd tb ?_
    refine rn ?_
    exact G.lp (x := (k, u, fs)) (k + 1, v4, fs ++ [fb]) (by repeat (first | exact Sub.nil _ | refine Sub.cons rfl ?_)) ⟨hg4.below _ hx03, by simp only; omega, by simp only; omega, by simp only [List.length_append, List.length_cons, List.length_nil]; omega, by unfold FlO; rw [List.map_append]; exact ho4, fun y hy => by
      rcases List.mem_append.1 hy with h | h
      · exact hI y h
      · rw [List.mem_singleton.1 h, hfw]; exact ⟨hfI, by omega⟩⟩ (by simp only; omega)
  have hfl : (fs.map fC).length = fs.length := List.length_map ..
  have hus : Fls W u fs := hu.sli
  clear hu h0W
  refine rn ?_
  rw [hfl]
  refine rn ?_
  first | refine G.condD rfl (fun hc => ?_) (fun hc => ?_) | refine G.condN rfl (fun hc => ?_) (fun hc => ?_) | refine G.cond rfl (fun hc => ?_) (fun hc => ?_)
  · obtain rfl : fs = [] := List.length_eq_zero_iff.1 (by omega)
    refine rn ?_
    refine sCall c14 (quantE_ok 4602678819172646912 u W hus) ?_
    rintro _ w1 ⟨rfl, hx1⟩
    refine rn ?_
    refine sCallx c13 (fun hc => isNaN_ok nanB true w1 (by kernel_rfl)) ?_
    intro w2 hx2
    refine rn ?_
    refine sCallx c12 (fun hc => wakes_ok w2) ?_
    intro w3 hx3
    refine rn ?_
    refine G.ret1 rfl rfl rfl rfl ?_
    exact ⟨rfl, ((hx.trans hx1).trans hx2).trans hx3⟩
  have hne : fs ≠ [] := fun h => hc (by rw [h]; rfl)
  have hK : Good wh fs := fun y hy => (hI y hy).1
  have hKb : ∀ y ∈ fs, (wh y).natAbs ≤ 1000000 := fun y hy => (hI y hy).2
  have hn60 : fs.length ≤ 60 := by omega
  obtain ⟨zs, hz1, hz2⟩ := srt_ex wh fs
  clear hI hc hf hfl
  have hfl : (fs.map fC).length = fs.length := List.length_map ..
  have hn1 : 1 ≤ fs.length := List.length_pos_iff.2 hne
  have hzl := hz1.length_eq
  obtain ⟨Kz, hKz⟩ : ∃ Kz : Nat → Int, Kz = fun i => wh (at_ zs i) := ⟨_, rfl⟩
  have hqu := fun (q P : Nat) (W : World) (hW : Fls W u fs) (hP : P ≤ 1024) (hq : IsS 10 q (P : Int)) => quantN_ok wh zs q P u fs W hW hK hKb hne hn60 hP hq hz1 hz2
  rw [← hKz] at hqu
  have hmin := fun (W : World) (hW : Fls W u fs) => foldMin_ok wh u fs W hW hne hK hn60
  have hmax := fun (W : World) (hW : Fls W u fs) => foldMax_ok wh u fs W hW hne hK hn60
  -- the least is the first, the greatest the last
  have hat : ∀ y ∈ fs, ∃ i, i < fs.length ∧ Kz i = wh y := fun y hy => by
    obtain ⟨i, hi⟩ := List.getElem?_of_mem (hz1.symm.subset hy)
    have hil : i < zs.length := (List.getElem?_eq_some_iff.1 hi).1
    refine ⟨i, by omega, ?_⟩
    rw [at_get hil, Option.some.injEq] at hi
    rw [hKz]
    show wh (at_ zs i) = wh y
    rw [hi]
  have hin : ∀ i, i < fs.length → ∃ y ∈ fs, Kz i = wh y := fun i hi => ⟨at_ zs i, hz1.subset (List.mem_of_getElem? (at_get (by omega))), by rw [hKz]⟩
  have hsr : ∀ i j, i < j → j < fs.length → Kz i ≤ Kz j := fun i j h1 h2 => by rw [hKz]; exact hz2 i j (Nat.zero_le _) h1 h2
  have hlo : ∀ y ∈ fs, (∀ x ∈ fs, wh y ≤ wh x) → wh y = Kz 0 := fun y hy hall => by
    obtain ⟨i, hi, e⟩ := hat y hy
    obtain ⟨x, hx, e2⟩ := hin 0 (by omega)
    have := hall x hx
    rcases Nat.eq_zero_or_pos i with h | h
    · rw [← e, h]
    · have := hsr 0 i h hi
      omega
  have hhi : ∀ y ∈ fs, (∀ x ∈ fs, wh x ≤ wh y) → wh y = Kz (fs.length - 1) := fun y hy hall => by
    obtain ⟨i, hi, e⟩ := hat y hy
    obtain ⟨x, hx, e2⟩ := hin (fs.length - 1) (by omega)
    have := hall x hx
    rcases Nat.lt_or_eq_of_le (show i ≤ fs.length - 1 by omega) with h | h
    · have := hsr i (fs.length - 1) h (by omega)
      omega
    · rw [← e, h]
  clear hat hin hz2 hz1 hzl hKz
  refine rn ?_
  refine sCall c15 (hmin W hus) ?_
  rintro _ w1 ⟨⟨lo, rfl, hlo1, hlo2⟩, hx1⟩
  have hu1 := hus.to hx1
  refine rn ?_
  refine sCall c15 (hmax w1 hu1) ?_
  rintro _ w2 ⟨⟨hi, rfl, hhi1, hhi2⟩, hx2⟩
  have hu2 := hu1.to hx2
  have hx02 := (hx.trans hx1).trans hx2
  have eL := hlo lo hlo1 hlo2
  have eH := hhi hi hhi1 hhi2
  have sL : IsS 10 lo (Kz 0 * 1024) := by rw [← eL]; exact isI_10 (hK lo hlo1)
  have sH : IsS 10 hi (Kz (fs.length - 1) * 1024) := by rw [← eH]; exact isI_10 (hK hi hhi1)
  have bL : (Kz 0).natAbs ≤ 1000000 := by rw [← eL]; exact hKb lo hlo1
  have bH : (Kz (fs.length - 1)).natAbs ≤ 1000000 := by rw [← eH]; exact hKb hi hhi1
  clear hlo hhi hlo2 hhi2 hmin hmax eL eH hx1 hx2 hx hus hu1
  refine rn ?_
  refine sCall c9 (within_ok a 1025 w2 (by decide) (by decide)) ?_
  rintro _ wa ⟨rfl, hwa⟩
  obtain rfl : w2 = wa := hwa.symm
  refine rn ?_
  refine sCall c9 (within_ok b 1025 w2 (by decide) (by decide)) ?_
  rintro _ wa ⟨rfl, hwa⟩
  obtain rfl : w2 = wa := hwa.symm
  have a1 := Int.emod_nonneg a (b := 1025) (by decide)
  have a2 := Int.emod_lt_of_pos a (b := 1025) (by decide)
  have b1 := Int.emod_nonneg b (b := 1025) (by decide)
  have b2 := Int.emod_lt_of_pos b (b := 1025) (by decide)
  obtain ⟨A, hA⟩ : ∃ A : Nat, (A : Int) = a % 1025 := ⟨(a % 1025).toNat, by omega⟩
  obtain ⟨B, hB⟩ : ∃ B : Nat, (B : Int) = b % 1025 := ⟨(b % 1025).toNat, by omega⟩
  rw [← hA, ← hB]
  have hA2 : A ≤ 1024 := by omega
  have hB2 : B ≤ 1024 := by omega
  clear hA hB a1 a2 b1 b2
  refine rn ?_
  refine G.join (fun x : Nat × Nat => [(7, none, u), (9, none, Fl lo), (11, none, Fl hi), (13, none, .int .i64 x.1), (14, none, .int .i64 x.2)]) (fun x W => W = w2 ∧ x.1 ≤ x.2 ∧ x.2 ≤ 1024) ?_ ?_
  rotate_left
  · first | refine G.condD rfl (fun hc => ?_) (fun hc => ?_) | refine G.condN rfl (fun hc => ?_) (fun hc => ?_) | refine G.cond rfl (fun hc => ?_) (fun hc => ?_)
    · refine rn ?_
      exact G.met (B, A) (by repeat (first | exact Sub.nil _ | refine Sub.cons rfl ?_)) ⟨rfl, by show B ≤ A; omega, hA2⟩
    · refine rn ?_
      exact G.met (A, B) (by repeat (first | exact Sub.nil _ | refine Sub.cons rfl ?_)) ⟨rfl, by show A ≤ B; omega, hB2⟩
  clear hA2 hB2
  rintro ⟨P, Q⟩ W' ⟨hWe, hPQ, hQ⟩
  simp only at hPQ hQ hWe ⊢
  obtain rfl : w2 = W' := hWe.symm
  obtain ⟨q1, d1, s1⟩ := quo_isS (p := P) (by omega)
  obtain ⟨q2, d2, s2⟩ := quo_isS (p := Q) hQ
  refine rn ?_
  refine GL.cons (Step.i2f tb rfl (Op1.of rfl (by first | exact fun _ => rfl | exact fun h => h | exact fun h => bL h | exact fun h => bL (bL h) | exact fun h => bL (bL (bL h)))) rfl rfl rfl rfl ?_)
  refine GL.cons (Step.flt (r := q1) rfl (Op1.of rfl (by first | exact fun _ => rfl | exact fun h => h | exact fun h => bL h | exact fun h => bL (bL h) | exact fun h => bL (bL (bL h)))) (Op1.of rfl (by first | exact fun _ => rfl | exact fun h => h | exact fun h => bL h | exact fun h => bL (bL h) | exact fun h => bL (bL (bL h)))) d1 rfl ?_)
  refine rn ?_
  refine sCall c14 (hqu q1 P w2 hu2 (by omega) s1) ?_
  rintro _ w3 ⟨⟨x1, rfl, sx1⟩, hx3⟩
  have hu3 := hu2.to hx3
  refine rn ?_
  refine GL.cons (Step.i2f tb rfl (Op1.of rfl (by first | exact fun _ => rfl | exact fun h => h | exact fun h => bL h | exact fun h => bL (bL h) | exact fun h => bL (bL (bL h)))) rfl rfl rfl rfl ?_)
  refine GL.cons (Step.flt (r := q2) rfl (Op1.of rfl (by first | exact fun _ => rfl | exact fun h => h | exact fun h => bL h | exact fun h => bL (bL h) | exact fun h => bL (bL (bL h)))) (Op1.of rfl (by first | exact fun _ => rfl | exact fun h => h | exact fun h => bL h | exact fun h => bL (bL h) | exact fun h => bL (bL (bL h)))) d2 rfl ?_)
  refine rn ?_
  refine sCall c14 (hqu q2 Q w3 hu3 hQ s2) ?_
  rintro _ w4 ⟨⟨x2, rfl, sx2⟩, hx4⟩
  have hu4 := hu3.to hx4
  have hx04 := (hx02.trans hx3).trans hx4
  clear hx02 hx3 hx4 hu2 hu3 d1 d2
  have m0 := qv_mono hsr hn1 (Nat.zero_le P) (by omega)
  have m1 := qv_mono hsr hn1 hPQ hQ
  have m2 := qv_mono hsr hn1 hQ (Nat.le_refl 1024)
  rw [qv_0] at m0
  rw [qv_1] at m2
  obtain ⟨lo', e1, g1⟩ := Go.Nm.down_ok sL (by omega)
  obtain ⟨x2', e2, g2⟩ := Go.Nm.up_ok sx2 (by omega)
  obtain ⟨hi', e3, g3⟩ := Go.Nm.up_ok sH (by omega)
  have c1 := g1 x1 _ sx1 m0
  have c2 := g2 x1 _ sx1 m1
  have c3 := g3 x2 _ sx2 m2
  refine rn ?_
  refine GL.cons (Step.flt (r := lo') rfl (Op1.of rfl (by first | exact fun _ => rfl | exact fun h => h | exact fun h => bL h | exact fun h => bL (bL h) | exact fun h => bL (bL (bL h)))) (Op1.of rfl (by first | exact fun _ => rfl | exact fun h => h | exact fun h => bL h | exact fun h => bL (bL h) | exact fun h => bL (bL (bL h)))) e1 rfl ?_)
  refine GL.cons (Step.fcmp (r := true) rfl (Op1.of rfl (by first | exact fun _ => rfl | exact fun h => h | exact fun h => bL h | exact fun h => bL (bL h) | exact fun h => bL (bL (bL h)))) (Op1.of rfl (by first | exact fun _ => rfl | exact fun h => h | exact fun h => bL h | exact fun h => bL (bL h) | exact fun h => bL (bL (bL h)))) c1 rfl ?_)
  refine rn ?_
  refine GL.cons (Step.flt (r := x2') rfl (Op1.of rfl (by first | exact fun _ => rfl | exact fun h => h | exact fun h => bL h | exact fun h => bL (bL h) | exact fun h => bL (bL (bL h)))) (Op1.of rfl (by first | exact fun _ => rfl | exact fun h => h | exact fun h => bL h | exact fun h => bL (bL h) | exact fun h => bL (bL (bL h)))) e2 rfl ?_)
  refine GL.cons (Step.fcmp (r := true) rfl (Op1.of rfl (by first | exact fun _ => rfl | exact fun h => h | exact fun h => bL h | exact fun h => bL (bL h) | exact fun h => bL (bL (bL h)))) (Op1.of rfl (by first | exact fun _ => rfl | exact fun h => h | exact fun h => bL h | exact fun h => bL (bL h) | exact fun h => bL (bL (bL h)))) c2 rfl ?_)
  refine rn ?_
  refine GL.cons (Step.flt (r := hi') rfl (Op1.of rfl (by first | exact fun _ => rfl | exact fun h => h | exact fun h => bL h | exact fun h => bL (bL h) | exact fun h => bL (bL (bL h)))) (Op1.of rfl (by first | exact fun _ => rfl | exact fun h => h | exact fun h => bL h | exact fun h => bL (bL h) | exact fun h => bL (bL (bL h)))) e3 rfl ?_)
  refine GL.cons (Step.fcmp (r := true) rfl (Op1.of rfl (by first | exact fun _ => rfl | exact fun h => h | exact fun h => bL h | exact fun h => bL (bL h) | exact fun h => bL (bL (bL h)))) (Op1.of rfl (by first | exact fun _ => rfl | exact fun h => h | exact fun h => bL h | exact fun h => bL (bL h) | exact fun h => bL (bL (bL h)))) c3 rfl ?_)
  refine rn ?_
  refine sCallG c14 (hqu 0 0 w4 hu4 (by decide) zero_S) ?_
  rintro _ w5 ⟨⟨x3, rfl, sx3⟩, hx5⟩
  have hu5 := hu4.to hx5
  rw [qv_0] at sx3
  refine rn ?_
  refine GL.cons (Step.fcmp (r := false) rfl (Op1.of rfl (by first | exact fun _ => rfl | exact fun h => h | exact fun h => bL h | exact fun h => bL (bL h) | exact fun h => bL (bL (bL h)))) (Op1.of rfl (by first | exact fun _ => rfl | exact fun h => h | exact fun h => bL h | exact fun h => bL (bL h) | exact fun h => bL (bL (bL h)))) (neq_S sx3 sL rfl) rfl ?_)
  refine rn ?_
  refine sCallG c14 (hqu 4607182418800017408 1024 w5 hu5 (by decide) one_S) ?_
  rintro _ w6 ⟨⟨x4, rfl, sx4⟩, hx6⟩
  have hu6 := hu5.to hx6
  rw [qv_1] at sx4
  refine rn ?_
  refine GL.cons (Step.fcmp (r := false) rfl (Op1.of rfl (by first | exact fun _ => rfl | exact fun h => h | exact fun h => bL h | exact fun h => bL (bL h) | exact fun h => bL (bL (bL h)))) (Op1.of rfl (by first | exact fun _ => rfl | exact fun h => h | exact fun h => bL h | exact fun h => bL (bL h) | exact fun h => bL (bL (bL h)))) (neq_S sx4 sH rfl) rfl ?_)
  refine rn ?_
  have hx06 := (hx04.trans hx5).trans hx6
  refine sCall c14 (quantLo_ok 13815242216921733530 u fs w6 hu6 hne (by kernel_rfl) (by kernel_rfl)) ?_
  rintro _ w7 ⟨rfl, hx7⟩
  have hu7 := hu6.to hx7
  refine rn ?_
  refine sCallx c16 (fun hc => isInfN_ok w7) ?_
  intro w8 hx8
  have hu8 := hu7.to hx8
  refine rn ?_
  refine sCallG c14 (quantHi_ok 4607632778762754458 u fs w8 hu8 hne (by kernel_rfl) (by kernel_rfl) (by kernel_rfl)) ?_
  rintro _ w9 ⟨rfl, hx9⟩
  refine rn ?_
  refine sCallx c16 (fun hc => isInfP_ok w9) ?_
  intro w10 hx10
  refine rn ?_
  refine sCallx c12 (fun hc => wakes_ok w10) ?_
  intro w11 hx11
  refine rn ?_
  refine G.ret1 rfl rfl rfl rfl ?_
  exact ⟨rfl, ((((hx06.trans hx7).trans hx8).trans hx9).trans hx10).trans hx11⟩
end Go.Proofs.Ytbnckhfkkoncbaa
end
section
open Go Go.Vg Go.RowKit Go.Proofs Go.Proofs.Ytbnckhfkkoncbaa
namespace Go.Proofs.Ytbnckhfkkoncbaa
open Go.Lib Go.Shelf Go.ChangeShapes Go.WideShapes Go.ChangeAt

set_option maxRecDepth 100000 in
/-- whole numbers that came in -/
theorem open_nums {H : Type} {enc : TypeId × Value → H} {w : World} {sp : Nat → Bool} {hd : Bool} {b : Nat} {v : Value} {d : DataW H} {p : List MemPlace}
    (hval : OkW Try.prog w b 32 v) (h : DataW.Trod enc Try.prog w 0 sp hd 32 v d p) : ∃ ls : List Int, Sli w v 1 (ls.map iC) ∧ ∀ x ∈ ls, True := by
  refine open_rows (t := 32) (e := 3) iC (fun _ => True) (tb.ok _ _ rfl) (by kernel_rfl) (fun n cs x hx => ?_) hval h
  obtain ⟨m, rfl, hm⟩ := open_int1 (tb.ok _ _ rfl) hx
  exact ⟨m, rfl, trivial⟩
set_option maxRecDepth 100000 in
theorem contract_funcsQuantile (H : Type) (enc : TypeId × Value → H) (W : World) (base : Nat) (args : Array Value) (ds gs : List (DataW H)) (before : List MemPlace)
    (hval : ∀ (j : Nat) t v, Try.f4.params[j]? = some t → args[j]? = some v → Value.okWide Try.prog W .any base t v)
    (hW : DataW.Whole enc Try.prog Try.f4.params.toList Rows.funcsQuantileSpec.vars false W args.toList ds gs before) (hL : laidMetH Try.prog Rows.funcsQuantileRow.laid W) :
    Calls Try.prog 4 args W fun e W' => ∃ v, e = .returned v ∧ Rows.funcsQuantileSpec.post enc Try.prog Try.f4 false true false false W args v W' := by
  have hW' := hW
  obtain ⟨p, q, hA0, hV, rfl, hfz, hnd⟩ := hW
  have hA : DataW.TrodAll enc Try.prog W 0 (fun _ => true) true Try.f4.params.toList args.toList ds p := hA0
  rw [Try.params4] at hA hval
  obtain ⟨v0, vs0, d0, ds0, p0, q0, hargs, rfl, rfl, h0, r0⟩ := trodAll_cons hA
  obtain ⟨v1, vs1, d1, ds1, p1, q1, hargs1, rfl, rfl, h1, r1⟩ := trodAll_cons r0
  obtain ⟨v2, vs2, d2, ds2, p2, q2, hargs2, rfl, rfl, h2, r2⟩ := trodAll_cons r1
  obtain ⟨rfl, rfl, rfl⟩ := trodAll_nil r2
  obtain rfl : args = #[v0, v1, v2] := by cases args; simp_all
  have k0 := OkW.mk (hval 0 _ v0 rfl rfl)
  have k1 := OkW.mk (hval 1 _ v1 rfl rfl)
  have k2 := OkW.mk (hval 2 _ v2 rfl rfl)
  obtain ⟨x0, hx0, hz0⟩ := open_nums k0 h0
  obtain ⟨n1, rfl, hn1⟩ := openI (tb.ok _ _ rfl) k1 h1
  obtain ⟨n2, rfl, hn2⟩ := openI (tb.ok _ _ rfl) k2 h2
  refine Calls.mono (quantile_law v0 x0 n1 n2 W hx0) ?_
  rintro e W' ⟨v, rfl, rfl, hx⟩
  exact ⟨_, rfl, law_post laidOut (by kernel_rfl) (tb := 4) rfl (tb.ok _ _ rfl) rfl hW' rfl hx⟩
theorem reads_funcsQuantile (os : Os) {H : Type} (enc : TypeId × Value → H) : ∃ places, DataW.whole enc Try.prog ((laidWorld os).forCall (fun _ _ => 0) ⟨#[], #[.slice none 0 0, .int .i64 0, .int .i64 0], []⟩).memory Try.f4.params.toList Rows.funcsQuantileSpec.vars false #[.slice none 0 0, .int .i64 0, .int .i64 0].toList 8 = some ([.nil, .lit (.int .i64 0), .lit (.int .i64 0)], [], places) :=
  ⟨[], by kernel_rfl⟩
set_option maxRecDepth 100000 in
theorem lifted_funcsQuantile (os : Os) (started : os.Started) (H : Type) (enc : TypeId × Value → H) (F : Stop.Interp) :
    ReturnsInHanded {} Try.checked os 4 .any ((OpenSpec.ofChange Rows.funcsQuantileSpec).preRow enc Try.prog Try.f4 Rows.funcsQuantileRow.domain false Rows.funcsQuantileRow.laid) (((OpenSpec.ofChange Rows.funcsQuantileSpec).at F).post enc Try.prog Try.f4 false true false false) := by
  obtain ⟨places, hx⟩ := reads_funcsQuantile os enc
  refine returnsInHanded_of_row (C := Try.checked) (s := OpenSpec.ofChange Rows.funcsQuantileSpec) own started (by kernel_rfl) Try.func4
    (witness_row_at (enc := enc) (C := Try.checked) false (laidWorld os) #[.slice none 0 0, .int .i64 0, .int .i64 0] rfl (by kernel_rfl) (by kernel_rfl) (by kernel_rfl)
      (OpenSpec.preRow_of_cond 8 hx (by kernel_rfl) (fun k hk => by cases hk) (by kernel_rfl) (laid_met os _))) ?_
  intro W base args ds gs before hval hW _ _ _ hL _ _
  exact contract_funcsQuantile H enc W base args ds gs before hval hW hL
theorem said_funcsQuantile : Rows.FuncsQuantileSaid :=
  OpenClaim.holds_of_cond 4 Try.f4 rfl rfl rfl rfl rfl rfl rfl ⟨rfl, rfl, rfl, rfl, rfl⟩ rfl rfl rfl rfl rfl (by kernel_rfl) Try.func4 (by kernel_rfl)
    (of_decide_eq_true (by kernel_rfl)) (by unfold Func.isWrapper; first | (rw [if_pos (by decide +kernel)]; kernel_rfl) | (rw [if_neg (by decide +kernel)]; exact ⟨rfl, rfl⟩))
    (fun os started H enc _ F => by rw [OpenClaim.pre_eq_preRow]; exact lifted_funcsQuantile os started H enc F)
/-- FuncsQuantile: whatever the numbers and shares, the law of quantiles returns true and leaves what came in alone. -/
theorem FuncsQuantile_holds : Rows.FuncsQuantileSaid := said_funcsQuantile
end Go.Proofs.Ytbnckhfkkoncbaa
end
