/- Part of the proof of a statement about the given program. -/
import Derived.Test.YtmkckngecjpklaaGreatDoorP07
import Derived.Lib.SmallJoins
import Derived.Lib.ValidLaws
section
open Go Go.Vg Go.RowKit Go.Proofs Go.Proofs.YtmkckngecjpklaaGreatDoor
namespace Go.Proofs.YtmkckngecjpklaaGreatDoor.Lab
set_option linter.unusedSimpArgs false

theorem u8n_le (s : List UInt8) (i n : Nat) (c l : Int) (hi : i ≤ s.length) : i + u8n s i n c l ≤ s.length := by
  unfold u8n
  by_cases h : s.length < i + n
  · rw [if_pos h]; exact hi
  · rw [if_neg h]
    split
    · exact hi
    · split
      · exact hi
      · omega
theorem u8len_le (s : List UInt8) (i : Nat) (hi : i ≤ s.length) : i + u8len s i ≤ s.length := by
  unfold u8len
  split
  · exact hi
  · exact u8n_le _ _ _ _ _ hi
def validGo (s : List UInt8) : Nat → Nat → Bool
  | 0, _ => true
  | m + 1, i => if s.length ≤ i then true else if u8len s i = 0 then false else validGo s m (i + u8len s i)
def validU (s : List UInt8) : Bool := validGo s s.length 0
theorem validGo_end (s : List UInt8) : ∀ (m i : Nat), s.length ≤ i → validGo s m i = true
  | 0, _, _ => rfl
  | m + 1, i, h => by rw [validGo, if_pos h]
theorem validGo_fuel (s : List UInt8) : ∀ (m k i : Nat), s.length - i ≤ m → s.length - i ≤ k → validGo s m i = validGo s k i := by
  intro m
  induction m with
  | zero => intro k i h _; rw [validGo_end s 0 i (by omega), validGo_end s k i (by omega)]
  | succ m ih =>
    intro k i h h2
    cases k with
    | zero => rw [validGo_end s 0 i (by omega), validGo_end s (m + 1) i (by omega)]
    | succ k =>
      simp only [validGo]
      by_cases he : s.length ≤ i
      · rw [if_pos he, if_pos he]
      · rw [if_neg he, if_neg he]
        by_cases hz : u8len s i = 0
        · rw [if_pos hz, if_pos hz]
        · rw [if_neg hz, if_neg hz]
          exact ih _ _ (by omega) (by omega)
theorem validGo_step {s : List UInt8} {i : Nat} (hi : i < s.length) (hz : u8len s i ≠ 0) : validGo s (s.length - i) i = validGo s (s.length - (i + u8len s i)) (i + u8len s i) := by
  rw [validGo_fuel s (s.length - i) ((s.length - i - 1) + 1) i (by omega) (by omega), validGo, if_neg (by omega), if_neg hz]
  exact validGo_fuel _ _ _ _ (by omega) (by omega)
theorem validGo_no {s : List UInt8} {i : Nat} (hi : i < s.length) (hz : u8len s i = 0) : validGo s (s.length - i) i = false := by
  rw [validGo_fuel s (s.length - i) ((s.length - i - 1) + 1) i (by omega) (by omega), validGo, if_neg (by omega), if_pos hz]

theorem valid_ok (s : List UInt8) (w : World) (hs : s.length ≤ 140737488355328) :
    Ret Tryz.prog 122 ⟨[S s]⟩ w fun v w' => v = .bool (validU s) ∧ Ext w w' := by
  refine ret_of_G Tryz.func122 rfl Tryz.ntmps122 rfl ?_
  simp only [argEnv]
  refine rg ?_
  refine (G.loop (fun i : Nat => [(0, none, S s), (3, none, .int .i64 i)]) (fun i w' => w' = w ∧ i ≤ s.length ∧ validGo s (s.length - i) i = validU s) (fun i => s.length - i) 0 (by repeat (first | exact Sub.nil _ | refine Sub.cons rfl ?_)) ⟨rfl, by omega, rfl⟩ ?_)
  rintro i w ⟨rfl, hk, hto⟩
  refine rg ?_
  first | refine G.condD rfl (fun hc => ?_) (fun hc => ?_) | refine G.condN rfl (fun hc => ?_) (fun hc => ?_) | refine G.cond rfl (fun hc => ?_) (fun hc => ?_)
  · have hlt : i < s.length := by omega
    refine rg ?_
    refine GL.cons (Step.callF rfl rfl rfl c199 rfl (utf8_ok s i w hs hlt) ?_)
    rintro _ _ ⟨rfl, rfl⟩
    have hle := u8len_le s i hk
    refine rg ?_
    first | refine G.condD rfl (fun hc => ?_) (fun hc => ?_) | refine G.condN rfl (fun hc => ?_) (fun hc => ?_) | refine G.cond rfl (fun hc => ?_) (fun hc => ?_)
    · refine rg ?_
      refine G.ret1 rfl rfl rfl rfl ?_
      refine ⟨?_, Ext.refl _⟩
      rw [← hto, validGo_no hlt (by omega)]
    · refine rg ?_
      refine GL.cons (Step.arith rfl (Op1.of rfl (by first | exact fun _ => rfl | exact fun h => h | exact fun h => bL h | exact fun h => bL (bL h) | exact fun h => bL (bL (bL h)))) (Op1.of rfl (by first | exact fun _ => rfl | exact fun h => h | exact fun h => bL h | exact fun h => bL (bL h) | exact fun h => bL (bL (bL h)))) (wrap_i64 (by omega) (by omega)) rfl ?_)
      refine rg ?_
      refine G.lp (i + u8len s i) (by repeat (first | exact Sub.nil _ | refine Sub.cons rfl ?_)) ⟨rfl, hle, ?_⟩ (by omega)
      rw [← hto, validGo_step hlt (by omega)]
  · refine rg ?_
    refine G.ret1 rfl rfl rfl rfl ?_
    refine ⟨?_, Ext.refl _⟩
    rw [← hto, validGo_end _ _ _ (by omega)]

def rightV (s : List UInt8) : Bool := decide ((s.length : Int) ≤ 1024) && validU s
theorem refValue_ok (s : List UInt8) (w : World) (hs : s.length ≤ 9223372036854775807) :
    Ret Tryz.prog 88 ⟨[S s]⟩ w fun v w' => v = .bool (rightV s) ∧ Ext w w' := by
  refine ret_of_G Tryz.func88 rfl Tryz.ntmps88 rfl ?_
  simp only [argEnv]
  refine rg ?_
  refine GL.cons (Step.callX rfl rfl (by repeat (first | exact OpL.nil | refine OpL.cons (Op1.of rfl (by first | exact fun _ => rfl | exact fun h => h | exact fun h => bL h | exact fun h => bL (bL h) | exact fun h => bL (bL (bL h)))) ?_)) c122 rfl (fun hc => valid_ok s w (by have := of_decide_eq_true hc; omega)) ?_)
  intro w1 hx
  refine rg ?_
  refine G.ret1 rfl rfl rfl rfl ?_
  exact ⟨rfl, hx⟩

def Sz (s : List UInt8) : Prop := s.length ≤ 9223372036854775807
def LabSz (x : Lab) : Prop := Sz x.1 ∧ Sz x.2
def nameS : List UInt8 := [95, 95, 110, 97, 109, 101, 95, 95]
/-- may a label be in a set, but for an empty value? -/
def fairB (x : Lab) : Bool := (namedB false x.1 && rightV x.2) && (!decide (x.1 = nameS) || decide (x.2 = []) || namedB true x.2)
theorem fair_ok (x : Lab) (w : World) (hx : LabSz x) :
    Ret Tryz.prog 73 ⟨[.agg ⟨labC x⟩]⟩ w fun v w' => v = .bool (fairB x) ∧ Ext w w' := by
  refine ret_of_G Tryz.func73 rfl Tryz.ntmps73 rfl ?_
  simp only [argEnv]
  refine rg ?_
  refine GL.cons (Step.box rfl (Op1.of rfl (by first | exact fun _ => rfl | exact fun h => h | exact fun h => bL h | exact fun h => bL (bL h) | exact fun h => bL (bL (bL h)))) (rfl) rfl ?_)
  intro w1 hb1 hs1 hx1
  refine rg ?_
  refine GL.cons (Step.fieldAddr tb rfl (Op1.of rfl (by first | exact fun _ => rfl | exact fun h => h | exact fun h => bL h | exact fun h => bL (bL h) | exact fun h => bL (bL (bL h)))) rfl rfl rfl rfl (fun _ => (hb1.cells).ptr) rfl ?_); refine GL.cons (Step.load1 tb rfl (Op1.of rfl (by first | exact fun _ => rfl | exact fun h => h | exact fun h => bL h | exact fun h => bL (bL h) | exact fun h => bL (bL (bL h)))) rfl rfl (fun _ => (hb1.cells).cell (i := 0) rfl) rfl ?_)
  refine GL.cons (Step.callX rfl rfl (by repeat (first | exact OpL.nil | refine OpL.cons (Op1.of rfl (by first | exact fun _ => rfl | exact fun h => h | exact fun h => bL h | exact fun h => bL (bL h) | exact fun h => bL (bL (bL h)))) ?_)) c69 rfl (fun hc => refName_ok x.1 w1 hx.1) ?_)
  intro w2 hx2
  have hb2 := hb1.to hx2
  refine rg ?_
  refine GL.cons (Step.fieldAddr tb rfl (Op1.of rfl (by first | exact fun _ => rfl | exact fun h => h | exact fun h => bL h | exact fun h => bL (bL h) | exact fun h => bL (bL (bL h)))) rfl rfl rfl rfl (fun _ => (hb2.cells).ptr) rfl ?_); refine GL.cons (Step.load1 tb rfl (Op1.of rfl (by first | exact fun _ => rfl | exact fun h => h | exact fun h => bL h | exact fun h => bL (bL h) | exact fun h => bL (bL (bL h)))) rfl rfl (fun _ => (hb2.cells).cell (i := 1) rfl) rfl ?_)
  refine GL.cons (Step.callX rfl rfl (by repeat (first | exact OpL.nil | refine OpL.cons (Op1.of rfl (by first | exact fun _ => rfl | exact fun h => h | exact fun h => bL h | exact fun h => bL (bL h) | exact fun h => bL (bL (bL h)))) ?_)) c88 rfl (fun hc => refValue_ok x.2 w2 hx.2) ?_)
  intro w3 hx3
  have hb3 := hb2.to hx3
  refine rg ?_
  refine GL.cons (Step.fieldAddr tb rfl (Op1.of rfl (by first | exact fun _ => rfl | exact fun h => h | exact fun h => bL h | exact fun h => bL (bL h) | exact fun h => bL (bL (bL h)))) rfl rfl rfl rfl (fun _ => (hb3.cells).ptr) rfl ?_); refine GL.cons (Step.load1 tb rfl (Op1.of rfl (by first | exact fun _ => rfl | exact fun h => h | exact fun h => bL h | exact fun h => bL (bL h) | exact fun h => bL (bL (bL h)))) rfl rfl (fun _ => (hb3.cells).cell (i := 0) rfl) rfl ?_)
  refine rg ?_
  refine GL.cons (Step.fieldAddr tb rfl (Op1.of rfl (by first | exact fun _ => rfl | exact fun h => h | exact fun h => bL h | exact fun h => bL (bL h) | exact fun h => bL (bL (bL h)))) rfl rfl rfl rfl (fun _ => (hb3.cells).ptr) rfl ?_); refine GL.cons (Step.load1 tb rfl (Op1.of rfl (by first | exact fun _ => rfl | exact fun h => h | exact fun h => bL h | exact fun h => bL (bL h) | exact fun h => bL (bL (bL h)))) rfl rfl (fun _ => (hb3.cells).cell (i := 1) rfl) rfl ?_)
  refine rg ?_
  refine GL.cons (Step.fieldAddr tb rfl (Op1.of rfl (by first | exact fun _ => rfl | exact fun h => h | exact fun h => bL h | exact fun h => bL (bL h) | exact fun h => bL (bL (bL h)))) rfl rfl rfl rfl (fun _ => (hb3.cells).ptr) rfl ?_); refine GL.cons (Step.load1 tb rfl (Op1.of rfl (by first | exact fun _ => rfl | exact fun h => h | exact fun h => bL h | exact fun h => bL (bL h) | exact fun h => bL (bL (bL h)))) rfl rfl (fun _ => (hb3.cells).cell (i := 1) rfl) rfl ?_)
  refine GL.cons (Step.callX rfl rfl (by repeat (first | exact OpL.nil | refine OpL.cons (Op1.of rfl (by first | exact fun _ => rfl | exact fun h => h | exact fun h => bL h | exact fun h => bL (bL h) | exact fun h => bL (bL (bL h)))) ?_)) c148 rfl (fun hc => refMetric_ok x.2 w3 hx.2) ?_)
  intro w4 hx4
  refine rg ?_
  refine G.ret1 rfl rfl rfl rfl ?_
  exact ⟨rfl, ((hx1.trans hx2).trans hx3).trans hx4⟩
end Go.Proofs.YtmkckngecjpklaaGreatDoor.Lab
end
section
open Go Go.Vg Go.RowKit Go.Proofs Go.Proofs.YtmkckngecjpklaaGreatDoor
namespace Go.Proofs.YtmkckngecjpklaaGreatDoor.Lab
set_option linter.unusedSimpArgs false

abbrev LO (w : World) (B : Nat) (v : Value) (ls : List Lab) : Prop := Owns w B v 78 2 (ls.map labC)
def stepN (s : List Lab × Bool) (x : Lab) : List Lab × Bool := if x.2 = [] then s else (putL s.1 x, s.2 || hasL s.1 x.1)
def foldN (ls : List Lab) : List Lab × Bool := ls.foldl stepN ([], false)
def newR (ls : List Lab) : Int × List Lab :=
  if ls.all fairB = true then (if (foldN ls).2 = true then (13, []) else if 64 < (foldN ls).1.length then (15, []) else (0, (foldN ls).1)) else (2, [])
theorem putL_len (l : List Lab) (x : Lab) : (putL l x).length = l.length + 1 := by
  have := congrArg List.length (List.takeWhile_append_dropWhile (p := fun y => Op.bytesLess y.1 x.1) (l := l))
  simp only [List.length_append] at this
  simp only [putL, List.length_append, List.length_cons]; omega
theorem foldN_snoc (ls : List Lab) (x : Lab) : foldN (ls ++ [x]) = stepN (foldN ls) x := by simp [foldN]
theorem stepN_len (s : List Lab × Bool) (x : Lab) : (stepN s x).1.length ≤ s.1.length + 1 := by
  unfold stepN; split
  · omega
  · simp only [putL_len]; omega
theorem foldN_len (ls : List Lab) : (foldN ls).1.length ≤ ls.length := by
  unfold foldN
  suffices ∀ (l : List Lab) s, (l.foldl stepN s).1.length ≤ s.1.length + l.length by simpa using this ls ([], false)
  intro l
  induction l with
  | nil => intro s; simp
  | cons a r ih => intro s; simp only [List.foldl_cons, List.length_cons]; have := ih (stepN s a); have := stepN_len s a; omega
theorem Labs.at {ls : List Lab} {k : Nat} (h : k < ls.length) : ∃ x, x ∈ ls ∧ (ls.map labC)[k]? = some (labC x) ∧ ls.take (k + 1) = ls.take k ++ [x] ∧ ls.drop k = x :: ls.drop (k + 1) ∧ ls[k]? = some x :=
  ⟨ls[k], List.getElem_mem h, by simp [h], by rw [List.take_succ_eq_append_getElem h], List.drop_eq_getElem_cons h, by simp [h]⟩
theorem refNew_ok (v : Value) (ls : List Lab) (w : World) (hv : Labs w v ls) (hn : ls.length ≤ 1000) (hz : ∀ x ∈ ls, LabSz x) :
    Ret Tryz.prog 47 ⟨[v]⟩ w fun r w' => ∃ s, r = .tuple ⟨[s, .int .i64 (newR ls).1]⟩ ∧ LO w' w.heap.size s (newR ls).2 ∧ Ext w w' := by
  have hbd := Labs.bound hv
  refine ret_of_G Tryz.func47 rfl Tryz.ntmps47 rfl ?_
  simp only [argEnv]
  refine rg ?_
  refine (G.loop (fun k : Nat => [(0, none, v), (4, none, .int .i64 k)]) (fun k w' => Ext w w' ∧ k ≤ ls.length ∧ (ls.take k).all fairB = true) (fun k => ls.length - k) 0 (by repeat (first | exact Sub.nil _ | refine Sub.cons rfl ?_)) ⟨Ext.refl _, by omega, rfl⟩ ?_)
  rintro k w1 ⟨hx1, hk, hto⟩
  have hv1 := hv.to hx1
  refine rg ?_
  refine GL.cons (Step.lenV tb rfl (Op1.of rfl (by first | exact fun _ => rfl | exact fun h => h | exact fun h => bL h | exact fun h => bL (bL h) | exact fun h => bL (bL (bL h)))) rfl (fun _ => ⟨_, hv1⟩) rfl ?_)
  simp only [List.length_map]
  refine rg ?_
  first | refine G.condD rfl (fun hc => ?_) (fun hc => ?_) | refine G.condN rfl (fun hc => ?_) (fun hc => ?_) | refine G.cond rfl (fun hc => ?_) (fun hc => ?_)
  · have hlt : k < ls.length := by omega
    obtain ⟨x, hmem, hget, htk, -, -⟩ := Labs.at hlt
    refine rg ?_
    refine GL.cons (Step.indexAddr tb k rfl (Op1.of rfl (by first | exact fun _ => rfl | exact fun h => h | exact fun h => bL h | exact fun h => bL (bL h) | exact fun h => bL (bL (bL h)))) (Op1.of rfl (by first | exact fun _ => rfl | exact fun h => h | exact fun h => bL h | exact fun h => bL (bL h) | exact fun h => bL (bL (bL h)))) rfl rfl (fun _ => ⟨_, hv1⟩) (fun _ => ⟨by omega, by simpa using hlt⟩) rfl ?_)
    refine GL.cons (Step.loadA tb rfl (Op1.of rfl (by first | exact fun _ => rfl | exact fun h => h | exact fun h => bL h | exact fun h => bL (bL h) | exact fun h => bL (bL (bL h)))) rfl rfl rfl (fun _ => hv1.elem hget) (fun _ => rfl) rfl ?_)
    refine GL.cons (Step.callX rfl rfl (by repeat (first | exact OpL.nil | refine OpL.cons (Op1.of rfl (by first | exact fun _ => rfl | exact fun h => h | exact fun h => bL h | exact fun h => bL (bL h) | exact fun h => bL (bL (bL h)))) ?_)) c73 rfl (fun hc => fair_ok x w1 (hz _ hmem)) ?_)
    intro w2 hx2
    refine rg ?_
    first | refine G.condD rfl (fun hc => ?_) (fun hc => ?_) | refine G.condN rfl (fun hc => ?_) (fun hc => ?_) | refine G.cond rfl (fun hc => ?_) (fun hc => ?_)
    · refine rg ?_
      refine G.ret2 rfl rfl rfl rfl rfl ?_
      have : newR ls = (2, []) := by
        unfold newR; rw [if_neg]
        intro h
        have := List.all_eq_true.1 h x hmem
        rw [this] at hc; cases hc
      rw [this]
      exact ⟨_, rfl, Owns.nil _ _ _ _, hx1.trans hx2⟩
    · refine rg ?_
      refine GL.cons (Step.arith rfl (Op1.of rfl (by first | exact fun _ => rfl | exact fun h => h | exact fun h => bL h | exact fun h => bL (bL h) | exact fun h => bL (bL (bL h)))) (Op1.of rfl (by first | exact fun _ => rfl | exact fun h => h | exact fun h => bL h | exact fun h => bL (bL h) | exact fun h => bL (bL (bL h)))) (wrap_i64 (by omega) (by omega)) rfl ?_)
      refine rg ?_
      refine G.lp (k + 1) (by repeat (first | exact Sub.nil _ | refine Sub.cons rfl ?_)) ⟨hx1.trans hx2, by omega, ?_⟩ (by omega)
      rw [htk, List.all_append, hto]
      simpa using hc
  · have hke : k = ls.length := by omega
    subst hke
    rw [List.take_length] at hto
    refine rg ?_
    refine (G.loop (fun x : Nat × Value => [(0, none, v), (5, none, x.2), (6, none, .bool (foldN (ls.take x.1)).2), (7, none, .int .i64 x.1)]) (fun x w' => Ext w w' ∧ x.1 ≤ ls.length ∧ LO w' w.heap.size x.2 (foldN (ls.take x.1)).1) (fun x => ls.length - x.1) (0, .slice none 0 0) (by repeat (first | exact Sub.nil _ | refine Sub.cons rfl ?_)) ⟨hx1, by simp, Owns.nil _ _ _ _⟩ ?_)
    rintro ⟨k, s⟩ w2 ⟨hx2, hk, ho⟩
    simp only at hk ho ⊢
    have hv2 := hv.to hx2
    refine rg ?_
    refine GL.cons (Step.lenV tb rfl (Op1.of rfl (by first | exact fun _ => rfl | exact fun h => h | exact fun h => bL h | exact fun h => bL (bL h) | exact fun h => bL (bL (bL h)))) rfl (fun _ => ⟨_, hv2⟩) rfl ?_)
    simp only [List.length_map]
    refine rg ?_
    first | refine G.condD rfl (fun hc => ?_) (fun hc => ?_) | refine G.condN rfl (fun hc => ?_) (fun hc => ?_) | refine G.cond rfl (fun hc => ?_) (fun hc => ?_)
    · have hlt : k < ls.length := by omega
      obtain ⟨x, hmem, hget, htk, -, -⟩ := Labs.at hlt
      have hsn : foldN (ls.take (k + 1)) = stepN (foldN (ls.take k)) x := by rw [htk, foldN_snoc]
      refine rg ?_
      refine GL.cons (Step.indexAddr tb k rfl (Op1.of rfl (by first | exact fun _ => rfl | exact fun h => h | exact fun h => bL h | exact fun h => bL (bL h) | exact fun h => bL (bL (bL h)))) (Op1.of rfl (by first | exact fun _ => rfl | exact fun h => h | exact fun h => bL h | exact fun h => bL (bL h) | exact fun h => bL (bL (bL h)))) rfl rfl (fun _ => ⟨_, hv2⟩) (fun _ => ⟨by omega, by simpa using hlt⟩) rfl ?_)
      refine GL.cons (Step.fieldAddr tb rfl (Op1.of rfl (by first | exact fun _ => rfl | exact fun h => h | exact fun h => bL h | exact fun h => bL (bL h) | exact fun h => bL (bL (bL h)))) rfl rfl rfl rfl (fun _ => (hv2.elem hget).ptr) rfl ?_); refine GL.cons (Step.load1 tb rfl (Op1.of rfl (by first | exact fun _ => rfl | exact fun h => h | exact fun h => bL h | exact fun h => bL (bL h) | exact fun h => bL (bL (bL h)))) rfl rfl (fun _ => (hv2.elem hget).cell (i := 1) rfl) rfl ?_)
      refine rg ?_
      first | refine G.condD rfl (fun hc => ?_) (fun hc => ?_) | refine G.condN rfl (fun hc => ?_) (fun hc => ?_) | refine G.cond rfl (fun hc => ?_) (fun hc => ?_)
      · have hst : stepN (foldN (ls.take k)) x = foldN (ls.take k) := by unfold stepN; rw [if_pos (by simpa using hc)]
        rw [hst] at hsn
        refine rg ?_
        refine GL.cons (Step.arith rfl (Op1.of rfl (by first | exact fun _ => rfl | exact fun h => h | exact fun h => bL h | exact fun h => bL (bL h) | exact fun h => bL (bL (bL h)))) (Op1.of rfl (by first | exact fun _ => rfl | exact fun h => h | exact fun h => bL h | exact fun h => bL (bL h) | exact fun h => bL (bL (bL h)))) (wrap_i64 (by omega) (by omega)) rfl ?_)
        refine rg ?_
        exact G.lp (x := (k, s)) (k + 1, s) (by simp only [hsn]; exact (by repeat (first | exact Sub.nil _ | refine Sub.cons rfl ?_))) ⟨hx2, by simp only; omega, by simp only [hsn]; exact ho⟩ (by simp only; omega)
      · have hst : stepN (foldN (ls.take k)) x = (putL (foldN (ls.take k)).1 x, (foldN (ls.take k)).2 || hasL (foldN (ls.take k)).1 x.1) := by unfold stepN; rw [if_neg (by simpa using hc)]
        rw [hst] at hsn
        have hfl := foldN_len (ls.take k)
        rw [List.length_take] at hfl
        refine rg ?_
        refine GL.cons (Step.indexAddr tb k rfl (Op1.of rfl (by first | exact fun _ => rfl | exact fun h => h | exact fun h => bL h | exact fun h => bL (bL h) | exact fun h => bL (bL (bL h)))) (Op1.of rfl (by first | exact fun _ => rfl | exact fun h => h | exact fun h => bL h | exact fun h => bL (bL h) | exact fun h => bL (bL (bL h)))) rfl rfl (fun _ => ⟨_, hv2⟩) (fun _ => ⟨by omega, by simpa using hlt⟩) rfl ?_)
        refine GL.cons (Step.fieldAddr tb rfl (Op1.of rfl (by first | exact fun _ => rfl | exact fun h => h | exact fun h => bL h | exact fun h => bL (bL h) | exact fun h => bL (bL (bL h)))) rfl rfl rfl rfl (fun _ => (hv2.elem hget).ptr) rfl ?_); refine GL.cons (Step.load1 tb rfl (Op1.of rfl (by first | exact fun _ => rfl | exact fun h => h | exact fun h => bL h | exact fun h => bL (bL h) | exact fun h => bL (bL (bL h)))) rfl rfl (fun _ => (hv2.elem hget).cell (i := 0) rfl) rfl ?_)
        refine GL.cons (Step.callX rfl rfl (by repeat (first | exact OpL.nil | refine OpL.cons (Op1.of rfl (by first | exact fun _ => rfl | exact fun h => h | exact fun h => bL h | exact fun h => bL (bL h) | exact fun h => bL (bL (bL h)))) ?_)) c97 rfl (fun hc => (has_ok s _ x.1 w2 ho.sli).mono fun _ _ h => ⟨h.1, h.2 ▸ Ext.refl _⟩) ?_)
        intro w3 hx3
        have hv3 := hv2.to hx3
        refine rg ?_
        refine GL.cons (Step.indexAddr tb k rfl (Op1.of rfl (by first | exact fun _ => rfl | exact fun h => h | exact fun h => bL h | exact fun h => bL (bL h) | exact fun h => bL (bL (bL h)))) (Op1.of rfl (by first | exact fun _ => rfl | exact fun h => h | exact fun h => bL h | exact fun h => bL (bL h) | exact fun h => bL (bL (bL h)))) rfl rfl (fun _ => ⟨_, hv3⟩) (fun _ => ⟨by omega, by simpa using hlt⟩) rfl ?_)
        refine GL.cons (Step.loadA tb rfl (Op1.of rfl (by first | exact fun _ => rfl | exact fun h => h | exact fun h => bL h | exact fun h => bL (bL h) | exact fun h => bL (bL (bL h)))) rfl rfl rfl (fun _ => hv3.elem hget) (fun _ => rfl) rfl ?_)
        refine GL.cons (Step.callF rfl rfl rfl c98 rfl (put_ok s _ x w3 (ho.to hx3).sli (by omega)) ?_)
        rintro r w4 ⟨ho4, hx4⟩
        refine rg ?_
        refine GL.cons (Step.arith rfl (Op1.of rfl (by first | exact fun _ => rfl | exact fun h => h | exact fun h => bL h | exact fun h => bL (bL h) | exact fun h => bL (bL (bL h)))) (Op1.of rfl (by first | exact fun _ => rfl | exact fun h => h | exact fun h => bL h | exact fun h => bL (bL h) | exact fun h => bL (bL (bL h)))) (wrap_i64 (by omega) (by omega)) rfl ?_)
        refine rg ?_
        have hx14 := (hx2.trans hx3)
        exact G.lp (x := (k, s)) (k + 1, r) (by simp only [hsn]; exact (by repeat (first | exact Sub.nil _ | refine Sub.cons rfl ?_))) ⟨hx14.trans hx4, by simp only; omega, by simp only [hsn]; exact ho4.mono hx14.size⟩ (by simp only; omega)
    · have hke : k = ls.length := by omega
      subst hke
      rw [List.take_length] at ho
      refine rg ?_
      rw [List.take_length]
      first | refine G.condD rfl (fun hc => ?_) (fun hc => ?_) | refine G.condN rfl (fun hc => ?_) (fun hc => ?_) | refine G.cond rfl (fun hc => ?_) (fun hc => ?_)
      · refine rg ?_
        refine G.ret2 rfl rfl rfl rfl rfl ?_
        have : newR ls = (13, []) := by unfold newR; rw [if_pos hto, if_pos hc]
        rw [this]
        exact ⟨_, rfl, Owns.nil _ _ _ _, hx2⟩
      · have hc2 := hc
        refine rg ?_
        refine GL.cons (Step.lenV tb rfl (Op1.of rfl (by first | exact fun _ => rfl | exact fun h => h | exact fun h => bL h | exact fun h => bL (bL h) | exact fun h => bL (bL (bL h)))) rfl (fun _ => ⟨_, ho.sli⟩) rfl ?_)
        simp only [List.length_map]
        refine rg ?_
        first | refine G.condD rfl (fun hc => ?_) (fun hc => ?_) | refine G.condN rfl (fun hc => ?_) (fun hc => ?_) | refine G.cond rfl (fun hc => ?_) (fun hc => ?_)
        · refine rg ?_
          refine G.ret2 rfl rfl rfl rfl rfl ?_
          have : newR ls = (15, []) := by unfold newR; rw [if_pos hto, if_neg (by rw [hc2]; simp), if_pos (by omega)]
          rw [this]
          exact ⟨_, rfl, Owns.nil _ _ _ _, hx2⟩
        · refine rg ?_
          refine G.ret2 rfl rfl rfl rfl rfl ?_
          have : newR ls = (0, (foldN ls).1) := by unfold newR; rw [if_pos hto, if_neg (by rw [hc2]; simp), if_neg (by omega)]
          rw [this]
          exact ⟨_, rfl, ho, hx2⟩
end Go.Proofs.YtmkckngecjpklaaGreatDoor.Lab
end
section
open Go Go.Vg Go.RowKit Go.Proofs Go.Proofs.YtmkckngecjpklaaGreatDoor
namespace Go.Proofs.YtmkckngecjpklaaGreatDoor.Lab
set_option linter.unusedSimpArgs false

def setStep (out : List Lab) (x : Lab) : List Lab := if (newR (out ++ [x])).1 = 0 then (newR (out ++ [x])).2 else out
def setN (ls : List Lab) : List Lab := (ls.take 80).foldl setStep []
theorem newR_len {ls : List Lab} : (newR ls).2.length ≤ 64 := by
  unfold newR
  split
  · split
    · simp
    · split
      · simp
      · simp only; omega
  · simp
theorem setTo_snoc (ls : List Lab) (x : Lab) : (ls ++ [x]).foldl setStep [] = setStep (ls.foldl setStep []) x := by simp
theorem setTo_len (ls : List Lab) : (ls.foldl setStep []).length ≤ 64 := by
  suffices ∀ (l : List Lab) (s : List Lab), s.length ≤ 64 → (l.foldl setStep s).length ≤ 64 from this ls [] (by simp)
  intro l
  induction l with
  | nil => intro s h; exact h
  | cons a r ih =>
    intro s h
    refine ih _ ?_
    unfold setStep
    split
    · exact newR_len
    · exact h
theorem putL_mem {l : List Lab} {x y : Lab} (h : y ∈ putL l x) : y ∈ l ∨ y = x := by
  simp only [putL, List.mem_append, List.mem_cons] at h
  rcases h with h | h | h
  · exact .inl ((List.takeWhile_sublist _).mem h)
  · exact .inr h
  · exact .inl ((List.dropWhile_sublist _).mem h)
theorem foldN_mem {ls : List Lab} {y : Lab} (h : y ∈ (foldN ls).1) : y ∈ ls := by
  suffices ∀ (l : List Lab) (s : List Lab × Bool), y ∈ (l.foldl stepN s).1 → y ∈ s.1 ∨ y ∈ l by
    rcases this ls ([], false) h with h | h
    · simp at h
    · exact h
  intro l
  induction l with
  | nil => intro s h; exact .inl h
  | cons a r ih =>
    intro s h
    rcases ih _ h with h | h
    · unfold stepN at h
      split at h
      · exact .inl h
      · rcases putL_mem h with h | h
        · exact .inl h
        · exact .inr (by simp [h])
    · exact .inr (by simp [h])
theorem newR_mem {ls : List Lab} {y : Lab} (h : y ∈ (newR ls).2) : y ∈ ls := by
  unfold newR at h
  split at h
  · split at h
    · simp at h
    · split at h
      · simp at h
      · exact foldN_mem h
  · simp at h
theorem setTo_mem {ls : List Lab} {y : Lab} (h : y ∈ ls.foldl setStep []) : y ∈ ls := by
  suffices ∀ (l : List Lab) (s : List Lab), y ∈ l.foldl setStep s → y ∈ s ∨ y ∈ l by
    rcases this ls [] h with h | h
    · simp at h
    · exact h
  intro l
  induction l with
  | nil => intro s h; exact .inl h
  | cons a r ih =>
    intro s h
    rcases ih _ h with h | h
    · unfold setStep at h
      split at h
      · rcases List.mem_append.1 (newR_mem h) with h | h
        · exact .inl h
        · exact .inr (by simp at h; simp [h])
      · exact .inl h
    · exact .inr (by simp [h])

end Go.Proofs.YtmkckngecjpklaaGreatDoor.Lab
end
section
open Go Go.Vg Go.RowKit Go.Proofs Go.Proofs.YtmkckngecjpklaaGreatDoor
namespace Go.Proofs.YtmkckngecjpklaaGreatDoor.Lab
set_option linter.unusedSimpArgs false

abbrev Tabs (w : World) : Prop := Lib.Utf8Tabs (Tryz.laysValid_ren.g 3) (Tryz.laysValid_ren.g 4) w
theorem validS_ok (s : List UInt8) (w : World) (hs : Sz s) (hT : Tabs w) :
    Ret Tryz.prog 85 ⟨[S s]⟩ w fun v w' => v = .bool (Lib.validD s) ∧ Ext w w' :=
  Calls.mono (Any.utf8_ValidString Tryz.laysValid ⟨⟨s⟩⟩ w hs hT) fun _ _ ⟨he, hb⟩ => ⟨_, he, rfl, hb⟩
theorem Tabs.to {w w' : World} (h : Tabs w) (hx : Ext w w') : Tabs w' := Utf8Tabs_below h hx
def okB (x : Lab) : Bool := if (!namedB false x.1 || decide ((1024 : Int) < x.2.length) || !Lib.validD x.2) = true then false else (!decide (x.1 = nameS) || decide (x.2 = []) || namedB true x.2)
theorem right_ok (x : Lab) (w : World) (hx : LabSz x) (hT : Tabs w) :
    Ret Tryz.prog 152 ⟨[.agg ⟨labC x⟩]⟩ w fun v w' => v = .bool (okB x) ∧ Ext w w' := by
  refine ret_of_G Tryz.func152 rfl Tryz.ntmps152 rfl ?_
  simp only [argEnv]
  refine rg ?_
  refine GL.cons (Step.box rfl (Op1.of rfl (by first | exact fun _ => rfl | exact fun h => h | exact fun h => bL h | exact fun h => bL (bL h) | exact fun h => bL (bL (bL h)))) (rfl) rfl ?_)
  intro w1 hb1 hs1 hx1
  refine rg ?_
  refine GL.cons (Step.fieldAddr tb rfl (Op1.of rfl (by first | exact fun _ => rfl | exact fun h => h | exact fun h => bL h | exact fun h => bL (bL h) | exact fun h => bL (bL (bL h)))) rfl rfl rfl rfl (fun _ => (hb1.cells).ptr) rfl ?_); refine GL.cons (Step.load1 tb rfl (Op1.of rfl (by first | exact fun _ => rfl | exact fun h => h | exact fun h => bL h | exact fun h => bL (bL h) | exact fun h => bL (bL (bL h)))) rfl rfl (fun _ => (hb1.cells).cell (i := 0) rfl) rfl ?_)
  refine GL.cons (Step.callX rfl rfl (by repeat (first | exact OpL.nil | refine OpL.cons (Op1.of rfl (by first | exact fun _ => rfl | exact fun h => h | exact fun h => bL h | exact fun h => bL (bL h) | exact fun h => bL (bL (bL h)))) ?_)) c67 rfl (fun hc => rightName_ok x.1 w1 hx.1) ?_)
  intro w2 hx2
  have hb2 := hb1.to hx2
  refine rg ?_
  refine GL.cons (Step.fieldAddr tb rfl (Op1.of rfl (by first | exact fun _ => rfl | exact fun h => h | exact fun h => bL h | exact fun h => bL (bL h) | exact fun h => bL (bL (bL h)))) rfl rfl rfl rfl (fun _ => (hb2.cells).ptr) rfl ?_); refine GL.cons (Step.load1 tb rfl (Op1.of rfl (by first | exact fun _ => rfl | exact fun h => h | exact fun h => bL h | exact fun h => bL (bL h) | exact fun h => bL (bL (bL h)))) rfl rfl (fun _ => (hb2.cells).cell (i := 1) rfl) rfl ?_)
  refine rg ?_
  refine GL.cons (Step.fieldAddr tb rfl (Op1.of rfl (by first | exact fun _ => rfl | exact fun h => h | exact fun h => bL h | exact fun h => bL (bL h) | exact fun h => bL (bL (bL h)))) rfl rfl rfl rfl (fun _ => (hb2.cells).ptr) rfl ?_); refine GL.cons (Step.load1 tb rfl (Op1.of rfl (by first | exact fun _ => rfl | exact fun h => h | exact fun h => bL h | exact fun h => bL (bL h) | exact fun h => bL (bL (bL h)))) rfl rfl (fun _ => (hb2.cells).cell (i := 1) rfl) rfl ?_)
  refine rg ?_
  refine GL.cons (Step.callX rfl rfl (by repeat (first | exact OpL.nil | refine OpL.cons (Op1.of rfl (by first | exact fun _ => rfl | exact fun h => h | exact fun h => bL h | exact fun h => bL (bL h) | exact fun h => bL (bL (bL h)))) ?_)) c85 rfl (fun hc => validS_ok x.2 w2 hx.2 (hT.to (hx1.trans hx2))) ?_)
  intro w3 hx3
  have hb3 := hb2.to hx3
  refine rg ?_
  first | refine G.condD rfl (fun hc => ?_) (fun hc => ?_) | refine G.condN rfl (fun hc => ?_) (fun hc => ?_) | refine G.cond rfl (fun hc => ?_) (fun hc => ?_)
  · refine rg ?_
    refine G.ret1 rfl rfl rfl rfl ?_
    refine ⟨?_, (hx1.trans hx2).trans hx3⟩
    have : okB x = if (!namedB false x.1 || decide ((1024 : Int) < x.2.length) || !Lib.validD x.2) = true then false else (!decide (x.1 = nameS) || decide (x.2 = []) || namedB true x.2) := rfl
    rw [this, if_pos hc]
  · have : okB x = (!decide (x.1 = nameS) || decide (x.2 = []) || namedB true x.2) := by unfold okB; rw [if_neg (by rw [hc]; simp)]
    rw [this]
    refine rg ?_
    refine GL.cons (Step.fieldAddr tb rfl (Op1.of rfl (by first | exact fun _ => rfl | exact fun h => h | exact fun h => bL h | exact fun h => bL (bL h) | exact fun h => bL (bL (bL h)))) rfl rfl rfl rfl (fun _ => (hb3.cells).ptr) rfl ?_); refine GL.cons (Step.load1 tb rfl (Op1.of rfl (by first | exact fun _ => rfl | exact fun h => h | exact fun h => bL h | exact fun h => bL (bL h) | exact fun h => bL (bL (bL h)))) rfl rfl (fun _ => (hb3.cells).cell (i := 0) rfl) rfl ?_)
    refine rg ?_
    refine GL.cons (Step.fieldAddr tb rfl (Op1.of rfl (by first | exact fun _ => rfl | exact fun h => h | exact fun h => bL h | exact fun h => bL (bL h) | exact fun h => bL (bL (bL h)))) rfl rfl rfl rfl (fun _ => (hb3.cells).ptr) rfl ?_); refine GL.cons (Step.load1 tb rfl (Op1.of rfl (by first | exact fun _ => rfl | exact fun h => h | exact fun h => bL h | exact fun h => bL (bL h) | exact fun h => bL (bL (bL h)))) rfl rfl (fun _ => (hb3.cells).cell (i := 1) rfl) rfl ?_)
    refine rg ?_
    refine GL.cons (Step.fieldAddr tb rfl (Op1.of rfl (by first | exact fun _ => rfl | exact fun h => h | exact fun h => bL h | exact fun h => bL (bL h) | exact fun h => bL (bL (bL h)))) rfl rfl rfl rfl (fun _ => (hb3.cells).ptr) rfl ?_); refine GL.cons (Step.load1 tb rfl (Op1.of rfl (by first | exact fun _ => rfl | exact fun h => h | exact fun h => bL h | exact fun h => bL (bL h) | exact fun h => bL (bL (bL h)))) rfl rfl (fun _ => (hb3.cells).cell (i := 1) rfl) rfl ?_)
    refine GL.cons (Step.callX rfl rfl (by repeat (first | exact OpL.nil | refine OpL.cons (Op1.of rfl (by first | exact fun _ => rfl | exact fun h => h | exact fun h => bL h | exact fun h => bL (bL h) | exact fun h => bL (bL (bL h)))) ?_)) c80 rfl (fun hc => rightMetric_ok x.2 w3 hx.2) ?_)
    intro w4 hx4
    refine rg ?_
    refine G.ret1 rfl rfl rfl rfl ?_
    exact ⟨rfl, ((hx1.trans hx2).trans hx3).trans hx4⟩
end Go.Proofs.YtmkckngecjpklaaGreatDoor.Lab
end
section
open Go Go.Vg Go.RowKit Go.Proofs Go.Proofs.YtmkckngecjpklaaGreatDoor
namespace Go.Proofs.YtmkckngecjpklaaGreatDoor
set_option linter.unusedSimpArgs false
namespace Lab
/-- labels that came in -/
theorem open_labs {H : Type} {enc : TypeId × Value → H} {w : World} {sp : Nat → Bool} {hd : Bool} {b : Nat} {v : Value} {d : DataW H} {p : List MemPlace}
    (hval : OkW Tryz.prog w b 23 v) (h : DataW.Trod enc Tryz.prog w 0 sp hd 23 v d p) : ∃ ls : List Lab, Labs w v ls ∧ ∀ x ∈ ls, LabSz x := by
  refine open_rows (t := 23) (e := 78) labC LabSz (tb.ok _ _ rfl) (by kernel_rfl) (fun n cs x hx => ?_) hval h
  obtain ⟨u0, u1, n, y0, y1, rfl, k0, k1⟩ := open_st2 (tb.ok _ _ rfl) (by kernel_rfl) rfl rfl (by kernel_rfl) (by kernel_rfl) hx
  obtain ⟨a, ha, hla⟩ := open_str (tb.ok _ _ rfl) k0
  obtain ⟨c, hc, hlc⟩ := open_str (tb.ok _ _ rfl) k1
  cases ha; cases hc
  exact ⟨(a, c), rfl, hla, hlc⟩
def strC (s : List UInt8) : List Value := [S s]
end Lab
end Go.Proofs.YtmkckngecjpklaaGreatDoor
end
section
namespace Go.Vg
open Go.RowKit Go.WideShapes Go.ChangeShapes
theorem field_ok {P : Program} {w : World} {b t u e i : Nat} {fs : Array Field} {cs : Array Value} {ts : List TypeId} {v : Value} (ht : P.underlying t = some (.struct fs)) (h : OkW P w b t (.agg cs)) (hct : P.cellTypes P.depth t = some ts) (hi : ts[i]? = some u)
    (hv : cs[i]? = some v) (hu : P.underlying u = some (.slice e)) : OkW P w b u v := by
  have h := h.ok
  simp only [Value.okWide, ht] at h
  obtain ⟨cs', hcs, _, ts', hts, _, hall⟩ := h
  cases hcs
  rw [hct] at hts
  cases hts
  obtain ⟨u', hu', hok⟩ := hall i v hv
  have hlt := (List.getElem?_eq_some_iff.1 hi).1
  rw [Nat.mod_eq_of_lt hlt, hi] at hu'
  cases hu'
  exact ⟨by simp only [Value.okWide, hu]; exact hok⟩
theorem open_bool1 {H : Type} {enc : TypeId × Value → H} {P : Program} {w : World} {b : Nat} {sp : Nat → Bool} {hd : Bool} {t n : Nat} {cs : List Value} {x : DataW H × List MemPlace}
    (ht : P.underlying t = some .bool) (h : DataW.trod enc P w b sp hd n t cs = some x) : ∃ m : Bool, cs = [.bool m] := by
  obtain ⟨m, rfl, _⟩ := DataW.trod_bool ht h
  exact ⟨m, rfl⟩
/-- a field that is a slice -/
theorem open_rows1 {H : Type} {enc : TypeId × Value → H} {P : Program} {w : World} {sp : Nat → Bool} {hd : Bool} {t e k b0 n : Nat} {α : Type} {v : Value} {x : DataW H × List MemPlace} (dec : α → List Value) (Q : α → Prop)
    (ht : P.underlying t = some (.slice e)) (hc : P.cellsOf e = k) (hel : ∀ n cs x, DataW.trod enc P w 0 sp hd n e cs = some x → ∃ a, cs = dec a ∧ Q a)
    (hval : OkW P w b0 t v) (h : DataW.trod enc P w 0 sp hd n t [v] = some x) : ∃ ls : List α, Sli w v k (ls.map dec) ∧ ∀ a ∈ ls, Q a := by
  obtain ⟨a0, len, cap, rfl⟩ := okWide_slice ht hval.ok
  exact open_rows (d := x.1) (p := x.2) dec Q ht hc hel hval ⟨n, h⟩
end Go.Vg
end
section
namespace Go.Vg
open Go.RowKit Go.Deep Go.WideShapes Go
theorem open_aggN {H : Type} {enc : TypeId × Value → H} {P : Program} {w : World} {base : Nat} {spare : Nat → Bool} {held : Bool} {b0 t m : Nat} {fs : Array Field} {v : Value} {d : DataW H} {p : List MemPlace} (hs : P.underlying t = some (.struct fs)) (hone : oneCellFields P fs = true) (hC : P.cellsOf t = m)
    (hv : OkW P w b0 t v) (h : DataW.Trod enc P w base spare held t v d p) :
    ∃ (cs : List Value) (n : Nat), v = .agg ⟨cs⟩ ∧ cs.length = m ∧ ∀ (i : Nat) (f : Field) (c : Value), fs[i]? = some f → cs[i]? = some c → ∃ y, DataW.trod enc P w base spare held n f.type [c] = some y := by
  obtain ⟨cs, rfl, hsz⟩ := okWide_struct hs hv.ok
  obtain ⟨cs⟩ := cs
  obtain ⟨fuel, hf⟩ := h
  obtain ⟨xs, n, _, hx, hl, hlen, hf⟩ := DataW.trod_struct hs hf
  refine ⟨cs, n, rfl, by simpa [hC] using hsz, fun i f c hi hc => ?_⟩
  obtain ⟨o, k⟩ := hone_of hone i f (by simpa using hi)
  have h1 := hf i f (by simpa using hi)
  have hlt : i < xs.length := by
    rw [hlen]
    have := (Array.getElem?_eq_some_iff.1 hi).1
    simpa using this
  refine ⟨xs[i], ?_⟩
  have hcs : (cs.drop i).take 1 = [c] := by
    have hi2 := List.getElem?_eq_some_iff.1 hc
    obtain ⟨h2, rfl⟩ := hi2
    rw [List.drop_eq_getElem_cons h2]; rfl
  simpa [Value.cells, o, k, hcs, hlt] using h1
end Go.Vg
end
section
open Go Go.Vg Go.RowKit Go.Proofs Go.Proofs.YtmkckngecjpklaaGreatDoor
namespace Go.Proofs.YtmkckngecjpklaaGreatDoor.Lab
set_option linter.unusedSimpArgs false

abbrev Strs (w : World) (v : Value) (ns : List (List UInt8)) : Prop := Sli w v 1 (ns.map strC)
theorem Strs.at {ns : List (List UInt8)} {k : Nat} (h : k < ns.length) : ∃ s, (ns.map strC)[k]? = some (strC s) ∧ s ∈ ns ∧ ns.drop k = s :: ns.drop (k + 1) ∧ ns.take (k + 1) = ns.take k ++ [s] :=
  ⟨ns[k], by simp [h], List.getElem_mem h, List.drop_eq_getElem_cons h, List.take_succ_eq_append_getElem h⟩

theorem labC_one1 (x : Lab) : ∀ v ∈ labC x, v.oneCell' = true := by simp [Value.oneCell', S, labC]
def pickL (ls : List Lab) (ns : List (List UInt8)) (b : Bool) : List Lab := ls.filter fun x => decide (x.1 ∈ ns) == b
theorem pickL_snoc (ls : List Lab) (ns : List (List UInt8)) (b : Bool) (x : Lab) : pickL (ls ++ [x]) ns b = if decide (x.1 ∈ ns) = b then pickL ls ns b ++ [x] else pickL ls ns b := by
  unfold pickL
  rw [List.filter_append, List.filter_cons, List.filter_nil]
  by_cases h : decide (x.1 ∈ ns) = b
  · rw [if_pos h, if_pos (by simpa using h)]
  · rw [if_neg h, if_neg (by simpa using h)]; simp
theorem pickL_len (ls : List Lab) (ns : List (List UInt8)) (b : Bool) : (pickL ls ns b).length ≤ ls.length := List.length_filter_le ..

end Go.Proofs.YtmkckngecjpklaaGreatDoor.Lab
end
section
open Go Go.Vg Go.RowKit Go.Proofs Go.Proofs.YtmkckngecjpklaaGreatDoor
namespace Go.Proofs.YtmkckngecjpklaaGreatDoor.Lab
set_option linter.unusedSimpArgs false

theorem layA {α : Type} (xs zs : List α) (x : α) (i : Nat) (hi : i < xs.length) (hz : zs.length = xs.length + 1 - i) :
    lay (lay (xs.take i ++ zs) i ([x].take 1)) (i + 1) ((xs.drop i).take (xs.length - i)) = xs.take i ++ x :: xs.drop i := by
  have h1 : (xs.take i).length = i := by rw [List.length_take]; omega
  have h2 : ((xs.drop i).take (xs.length - i)) = xs.drop i := List.take_of_length_le (by simp)
  have e1 : lay (xs.take i ++ zs) i ([x].take 1) = (xs.take i ++ [x]) ++ zs.drop 1 := by
    simp only [lay, List.take_left' h1, List.take_succ_cons, List.take_zero, List.length_cons, List.length_nil]
    rw [List.drop_append, List.drop_of_length_le (l := xs.take i) (by omega), List.nil_append, h1, show i + (0 + 1) - i = 1 by omega]
  have h3 : (xs.take i ++ [x]).length = i + 1 := by rw [List.length_append, h1]; rfl
  rw [e1, h2]
  simp only [lay, List.take_left' h3]
  rw [List.drop_of_length_le (l := xs.take i ++ [x] ++ zs.drop 1) (by simp; omega), List.append_nil, List.append_assoc]
  rfl
theorem layB {α : Type} (xs : List α) (x y : α) (i : Nat) (hi : i < xs.length) :
    lay (lay (xs ++ [y]) (i + 1) (((xs ++ [y]).drop i).take (xs.length - i))) i ([x].take 1) = xs.take i ++ x :: xs.drop i := by
  have e1 : ((xs ++ [y]).drop i).take (xs.length - i) = xs.drop i := by
    rw [List.drop_append_of_le_length (by omega), List.take_left' (by rw [List.length_drop])]
  have e2 : lay (xs ++ [y]) (i + 1) (xs.drop i) = xs.take (i + 1) ++ xs.drop i := by
    simp only [lay]
    rw [List.take_append_of_le_length (by omega), List.drop_of_length_le (l := xs ++ [y]) (by simp; omega), List.append_nil]
  rw [e1, e2]
  have h1 : (xs.take i).length = i := by rw [List.length_take]; omega
  have e3 : xs.take (i + 1) ++ xs.drop i = xs.take i ++ (xs[i] :: xs.drop i) := by
    rw [List.take_succ_eq_append_getElem hi, List.append_assoc]; rfl
  rw [e3]
  simp only [lay, List.take_left' h1, List.take_succ_cons, List.take_zero, List.length_cons, List.length_nil]
  rw [List.drop_append, List.drop_of_length_le (l := xs.take i) (by omega), List.nil_append, h1, show i + (0 + 1) - i = 1 by omega, List.append_assoc]
  rfl

theorem insert_ok (s u : Value) (xs : List (List Value)) (x : List Value) (i B B' : Nat) (w : World) (hs : Owns w B s 78 2 xs) (hu : Owns w B' u 78 2 [x]) (hne : ∀ b, some b = u.ownBlock → some b ≠ s.ownBlock)
    (hi : i ≤ xs.length) (hn : xs.length ≤ 1000) (hB : B ≤ w.heap.size) (h1 : ∀ y ∈ xs, ∀ c ∈ y, c.oneCell' = true) (h1x : ∀ y ∈ [x], ∀ c ∈ y, c.oneCell' = true) :
    Ret Tryz.prog 187 ⟨[s, .int .i64 i, u]⟩ w fun r w' => Owns w' B r 78 2 (xs.take i ++ x :: xs.drop i) ∧ Grew B s w w' := by
  refine ret_of_G Tryz.func187 rfl Tryz.ntmps187 rfl ?_
  simp only [argEnv]
  refine rn ?_
  refine GL.cons (Step.sliceVl tb i rfl (Op1.of rfl (by first | exact fun _ => rfl | exact fun h => h | exact fun h => bL h | exact fun h => bL (bL h) | exact fun h => bL (bL (bL h)))) (Op1.of rfl (by first | exact fun _ => rfl | exact fun h => h | exact fun h => bL h | exact fun h => bL (bL h) | exact fun h => bL (bL (bL h)))) rfl rfl (fun _ => ⟨_, hs.sli⟩) (fun _ => ⟨rfl, hi⟩) rfl ?_)
  refine rn ?_
  rw [show ((([x] : List (List Value)).length : Nat) : Int) = 1 from rfl]
  refine rn ?_
  first | refine G.condD rfl (fun hc => ?_) (fun hc => ?_) | refine G.condN rfl (fun hc => ?_) (fun hc => ?_) | refine G.cond rfl (fun hc => ?_) (fun hc => ?_)
  · have hin : i = xs.length := by omega
    refine rn ?_
    refine sApp tb hs hu.sli ?_ (h1 := h1x)
    intro v1 w1 ho1 hg1
    refine rn ?_
    refine G.ret1 rfl rfl rfl rfl ?_
    refine ⟨?_, hg1⟩
    rw [hin, List.take_length, List.drop_length]; exact ho1
  · have hlt : i < xs.length := by omega
    obtain ⟨gb, cap, cur, rfl, hBg, hgb, hcap, hcm, -, -⟩ := hs.shape (by omega)
    unfold maxLen at hcm
    refine rn ?_
    refine sAd tb ?_
    refine rn ?_
    refine GL.cons (Step.capV tb rfl (Op1.of rfl (by first | exact fun _ => rfl | exact fun h => h | exact fun h => bL h | exact fun h => bL (bL h) | exact fun h => bL (bL (bL h)))) rfl rfl ?_)
    refine rn ?_
    first | refine G.condD rfl (fun hc => ?_) (fun hc => ?_) | refine G.condN rfl (fun hc => ?_) (fun hc => ?_) | refine G.cond rfl (fun hc => ?_) (fun hc => ?_)
    · have hroom : cap < xs.length + 1 := by omega
      refine rn ?_
      refine GL.cons (Step.sliceVh tb i rfl (Op1.of rfl (by first | exact fun _ => rfl | exact fun h => h | exact fun h => bL h | exact fun h => bL (bL h) | exact fun h => bL (bL (bL h)))) (Op1.of rfl (by first | exact fun _ => rfl | exact fun h => h | exact fun h => bL h | exact fun h => bL (bL h) | exact fun h => bL (bL (bL h)))) rfl rfl (fun _ => ⟨_, hs.sli⟩) (fun _ => ⟨rfl, hi⟩) rfl ?_)
      refine rn ?_
      refine sAd tb ?_
      refine rn ?_
      refine sAr (r := ((xs.length + 1 - i : Nat) : Int)) ?_ (hp := (wrap_i64 (by omega) (by omega)).trans (by omega))
      refine GL.cons (Step.appendZ tb rfl (Op1.of rfl (by first | exact fun _ => rfl | exact fun h => h | exact fun h => bL h | exact fun h => bL (bL h) | exact fun h => bL (bL (bL h)))) (Op1.of rfl (by first | exact fun _ => rfl | exact fun h => h | exact fun h => bL h | exact fun h => bL (bL h) | exact fun h => bL (bL (bL h)))) rfl rfl rfl rfl rfl hs hi (by omega) (by omega) (by omega) (by omega) rfl ?_)
      intro v1 w1 zs hzl ho1 hx1
      refine rn ?_
      have hl1 : (xs.take i ++ zs).length = xs.length + 1 := by rw [List.length_append, List.length_take, hzl]; omega
      refine GL.cons (Step.sliceVl tb i rfl (Op1.of rfl (by first | exact fun _ => rfl | exact fun h => h | exact fun h => bL h | exact fun h => bL (bL h) | exact fun h => bL (bL (bL h)))) (Op1.of rfl (by first | exact fun _ => rfl | exact fun h => h | exact fun h => bL h | exact fun h => bL (bL h) | exact fun h => bL (bL (bL h)))) rfl rfl (fun _ => ⟨_, ho1.sli⟩) (fun _ => ⟨rfl, by omega⟩) rfl ?_)
      refine rn ?_
      refine GL.cons (Step.copyO tb rfl (Op1.of rfl (by first | exact fun _ => rfl | exact fun h => h | exact fun h => bL h | exact fun h => bL (bL h) | exact fun h => bL (bL (bL h)))) (Op1.of rfl (by first | exact fun _ => rfl | exact fun h => h | exact fun h => bL h | exact fun h => bL (bL h) | exact fun h => bL (bL (bL h)))) rfl rfl rfl ho1 (hu.to hx1).sli h1x (by omega) (m := 1) (by rw [hl1]; simp only [List.length_cons, List.length_nil]; omega) (by simp) rfl ?_)
      intro w2 ho2 hg2
      have hx2 : Ext w w2 := hg2.below _ hx1
      have hl2 : (lay (xs.take i ++ zs) i ([x].take 1)).length = xs.length + 1 := by rw [lay_len (by simp; omega)]; exact hl1
      refine rn ?_
      refine G.regionM [(0, true), (1, true), (2, true), (3, true), (4, true), (5, true), (6, true), (7, true), (8, false)] ((fun _ => True)) (by kernel_rfl) (by kernel_rfl) rfl mixed (trivial) rfl ?_
      refine rd ?_
      refine dAd tb ?_
      refine rd ?_
      refine GM.read (fun w' hS => Step.sliceVl tb (i + 1) rfl (Op1.of rfl (by first | exact fun _ => rfl | exact fun h => h | exact fun h => bL h | exact fun h => bL (bL h) | exact fun h => bL (bL (bL h)))) (Op1.of rfl (by first | exact fun _ => rfl | exact fun h => h | exact fun h => bL h | exact fun h => bL (bL h) | exact fun h => bL (bL (bL h)))) rfl rfl (fun _ => ⟨_, ho2.sli⟩) (fun _ => ⟨by omega, by omega⟩) rfl ⟨rfl, rfl⟩) rfl rfl ?_
      refine rd ?_
      refine GM.read (fun w' hS => Step.sliceVl tb i rfl (Op1.of rfl (by first | exact fun _ => rfl | exact fun h => h | exact fun h => bL h | exact fun h => bL (bL h) | exact fun h => bL (bL (bL h)))) (Op1.of rfl (by first | exact fun _ => rfl | exact fun h => h | exact fun h => bL h | exact fun h => bL (bL h) | exact fun h => bL (bL (bL h)))) rfl rfl (fun _ => ⟨_, hs.sli⟩) (fun _ => ⟨rfl, hi⟩) rfl ⟨rfl, rfl⟩) rfl rfl ?_
      have hx3 : Ext w w2.drew := hx2.drew'
      have hsub := Sli.sub (hs.to hx3).sli hi (Nat.le_refl _)
      have hsl : ((xs.drop i).take (xs.length - i)).length = xs.length - i := by rw [List.length_take, List.length_drop]; omega
      refine GM.eff (Step.copyO tb rfl (Op1.of rfl (by first | exact fun _ => rfl | exact fun h => h | exact fun h => bL h | exact fun h => bL (bL h) | exact fun h => bL (bL (bL h)))) (Op1.of rfl (by first | exact fun _ => rfl | exact fun h => h | exact fun h => bL h | exact fun h => bL (bL h) | exact fun h => bL (bL (bL h)))) rfl rfl rfl (ho2.to (Ext.drew w2)) hsub (fun y hy => h1 y (List.mem_of_mem_drop (List.mem_of_mem_take (List.mem_of_mem_take hy)))) (by omega) (m := xs.length - i) (by rw [hl2, hsl]; omega) (by omega) rfl ?_)
      intro w4 ho4 hg4
      refine ⟨trivial, ?_⟩
      refine GM.nil ?_
      refine rn ?_
      refine G.ret1 rfl rfl rfl rfl ?_
      rw [List.take_of_length_le (l := (xs.drop i).take (xs.length - i)) (by omega), layA xs zs x i hlt hzl] at ho4
      exact ⟨ho4.mono hB, Grew.ofExt (hg4.below _ hx3) hB⟩
    · have hroom : xs.length < cap := by omega
      obtain ⟨y, ho1⟩ := hs.up hroom (by omega)
      have hl1 : (xs ++ [y]).length = xs.length + 1 := by simp
      refine rn ?_
      refine sAd tb ?_
      refine rn ?_
      refine GL.cons (Step.sliceCap tb (b := xs.length + 1) rfl (Op1.of rfl (by first | exact fun _ => rfl | exact fun h => h | exact fun h => bL h | exact fun h => bL (bL h) | exact fun h => bL (bL (bL h)))) (Op1.of rfl (by first | exact fun _ => rfl | exact fun h => h | exact fun h => bL h | exact fun h => bL (bL h) | exact fun h => bL (bL (bL h)))) rfl rfl (fun _ => ⟨by omega, by omega⟩) rfl ?_)
      refine rn ?_
      refine sAd tb ?_
      refine rn ?_
      refine GL.cons (Step.sliceVl tb (i + 1) rfl (Op1.of rfl (by first | exact fun _ => rfl | exact fun h => h | exact fun h => bL h | exact fun h => bL (bL h) | exact fun h => bL (bL (bL h)))) (Op1.of rfl (by first | exact fun _ => rfl | exact fun h => h | exact fun h => bL h | exact fun h => bL (bL h) | exact fun h => bL (bL (bL h)))) rfl rfl (fun _ => ⟨_, ho1.sli⟩) (fun _ => ⟨by omega, by omega⟩) rfl ?_)
      refine rn ?_
      refine GL.cons (Step.callV rfl rfl rfl rfl (r := .bool false) ?_ ?_)
      · rw [run_callFunc_extern Tryz.func242 (by kernel_rfl) (by kernel_rfl) (by kernel_rfl) (e := Extern.SlicesOverlaps.overlaps #[23, 23] #[4]) (by kernel_rfl),
          overlaps_no tb rfl rfl (by decide) hu ho1 (by simp) (fun b hb => hne b hb) (by omega)]
        rfl
      refine rn ?_
      refine G.regionM [(0, true), (1, true), (2, true), (3, true), (4, true), (5, true), (6, true), (7, true), (8, false)] ((fun _ => True)) (by kernel_rfl) (by kernel_rfl) rfl mixed (trivial) rfl ?_
      refine rd ?_
      refine dAd tb ?_
      refine rd ?_
      refine GM.read (fun w' hS => Step.sliceVl tb (i + 1) rfl (Op1.of rfl (by first | exact fun _ => rfl | exact fun h => h | exact fun h => bL h | exact fun h => bL (bL h) | exact fun h => bL (bL (bL h)))) (Op1.of rfl (by first | exact fun _ => rfl | exact fun h => h | exact fun h => bL h | exact fun h => bL (bL h) | exact fun h => bL (bL (bL h)))) rfl rfl (fun _ => ⟨_, ho1.sli⟩) (fun _ => ⟨by omega, by omega⟩) rfl ⟨rfl, rfl⟩) rfl rfl ?_
      refine rd ?_
      refine GM.read (fun w' hS => Step.sliceVl tb i rfl (Op1.of rfl (by first | exact fun _ => rfl | exact fun h => h | exact fun h => bL h | exact fun h => bL (bL h) | exact fun h => bL (bL (bL h)))) (Op1.of rfl (by first | exact fun _ => rfl | exact fun h => h | exact fun h => bL h | exact fun h => bL (bL h) | exact fun h => bL (bL (bL h)))) rfl rfl (fun _ => ⟨_, ho1.sli⟩) (fun _ => ⟨rfl, by omega⟩) rfl ⟨rfl, rfl⟩) rfl rfl ?_
      have ho2 := ho1.to (Ext.drew w)
      have hu2 := hu.to (Ext.drew w)
      have hsub := Sli.sub ho2.sli (l := i) (by omega) (Nat.le_refl _)
      have hsl : (((xs ++ [y]).drop i).take ((xs ++ [y]).length - i)).length = xs.length + 1 - i := by rw [List.length_take, List.length_drop]; omega
      have e1 : (((xs ++ [y]).drop i).take ((xs ++ [y]).length - i)).take (xs.length - i) = ((xs ++ [y]).drop i).take (xs.length - i) := by rw [List.take_take, Nat.min_eq_left (by omega)]
      have e2 : ((xs ++ [y]).drop i).take (xs.length - i) = xs.drop i := by
        rw [List.drop_append_of_le_length (by omega), List.take_left' (by rw [List.length_drop])]
      refine GM.eff (Step.copyO tb rfl (Op1.of rfl (by first | exact fun _ => rfl | exact fun h => h | exact fun h => bL h | exact fun h => bL (bL h) | exact fun h => bL (bL (bL h)))) (Op1.of rfl (by first | exact fun _ => rfl | exact fun h => h | exact fun h => bL h | exact fun h => bL (bL h) | exact fun h => bL (bL (bL h)))) rfl rfl rfl ho2 hsub (fun z hz => h1 z (by rw [e1, e2] at hz; exact List.mem_of_mem_drop hz)) (by omega) (m := xs.length - i) (by rw [hsl, hl1]; omega) (by omega) rfl ?_)
      intro w4 ho4 hg4
      refine ⟨trivial, ?_⟩
      refine GM.nil ?_
      rw [e1] at ho4
      have hl4 : (lay (xs ++ [y]) (i + 1) (((xs ++ [y]).drop i).take (xs.length - i))).length = xs.length + 1 := by rw [e2, lay_len (by rw [hl1, List.length_drop]; omega)]; exact hl1
      have hu4 := hu2.grew hg4 hne
      refine rn ?_
      refine GL.cons (Step.sliceVl tb i rfl (Op1.of rfl (by first | exact fun _ => rfl | exact fun h => h | exact fun h => bL h | exact fun h => bL (bL h) | exact fun h => bL (bL (bL h)))) (Op1.of rfl (by first | exact fun _ => rfl | exact fun h => h | exact fun h => bL h | exact fun h => bL (bL h) | exact fun h => bL (bL (bL h)))) rfl rfl (fun _ => ⟨_, ho4.sli⟩) (fun _ => ⟨rfl, by omega⟩) rfl ?_)
      refine rn ?_
      refine GL.cons (Step.copyO tb rfl (Op1.of rfl (by first | exact fun _ => rfl | exact fun h => h | exact fun h => bL h | exact fun h => bL (bL h) | exact fun h => bL (bL (bL h)))) (Op1.of rfl (by first | exact fun _ => rfl | exact fun h => h | exact fun h => bL h | exact fun h => bL (bL h) | exact fun h => bL (bL (bL h)))) rfl rfl rfl ho4 hu4.sli h1x (by omega) (m := 1) (by rw [hl4]; simp only [List.length_cons, List.length_nil]; omega) (by simp) rfl ?_)
      intro w5 ho5 hg5
      refine rn ?_
      refine G.ret1 rfl rfl rfl rfl ?_
      rw [layB xs x y i hlt] at ho5
      have hg := hg4.trans hg5
      exact ⟨ho5, (Grew.ofExt (Ext.drew w) hB).trans ⟨hg.below, hg.size, hg.block⟩⟩
end Go.Proofs.YtmkckngecjpklaaGreatDoor.Lab
end
section
open Go Go.Vg Go.RowKit Go.Proofs Go.Proofs.YtmkckngecjpklaaGreatDoor
namespace Go.Proofs.YtmkckngecjpklaaGreatDoor
set_option linter.unusedSimpArgs false
namespace Lab
def cmpB (a b : List UInt8) : Int := if Op.bytesLess a b = true then -1 else if (!Op.bytesLess a b && !decide (a = b)) = true then 1 else 0
theorem isNaN_ok (s : List UInt8) (w : World) : Ret Tryz.prog 220 ⟨[S s]⟩ w fun r w' => r = .bool false ∧ w' = w := by
  refine ret_of_G Tryz.func220 rfl Tryz.ntmps220 rfl ?_
  simp only [argEnv]
  refine rg ?_
  refine G.ret1 rfl rfl rfl rfl ?_
  exact ⟨by simp, rfl⟩
theorem compare_ok (a b : List UInt8) (w : World) : Ret Tryz.prog 157 ⟨[S a, S b]⟩ w fun r w' => r = .int .i64 (cmpB a b) ∧ w' = w := by
  refine ret_of_G Tryz.func157 rfl Tryz.ntmps157 rfl ?_
  simp only [argEnv]
  refine rg ?_
  refine GL.cons (Step.callF rfl rfl rfl c220 rfl (isNaN_ok a w) ?_)
  rintro _ w1 ⟨rfl, hw⟩
  obtain rfl : w = w1 := hw.symm
  refine rg ?_
  refine GL.cons (Step.callF rfl rfl rfl c220 rfl (isNaN_ok b w) ?_)
  rintro _ w1 ⟨rfl, hw⟩
  obtain rfl : w = w1 := hw.symm
  refine rg ?_
  first | refine G.condD rfl (fun hc => ?_) (fun hc => ?_) | refine G.condN rfl (fun hc => ?_) (fun hc => ?_) | refine G.cond rfl (fun hc => ?_) (fun hc => ?_)
  · refine rg ?_
    refine G.ret1 rfl rfl rfl rfl ?_
    exact ⟨by rw [cmpB, if_pos hc], rfl⟩
  · have hc1 := hc
    refine rg ?_
    first | refine G.condD rfl (fun hc => ?_) (fun hc => ?_) | refine G.condN rfl (fun hc => ?_) (fun hc => ?_) | refine G.cond rfl (fun hc => ?_) (fun hc => ?_)
    · refine rg ?_
      refine G.ret1 rfl rfl rfl rfl ?_
      exact ⟨by rw [cmpB, if_neg (by rw [hc1]; simp), if_pos hc], rfl⟩
    · refine rg ?_
      refine G.ret1 rfl rfl rfl rfl ?_
      exact ⟨by rw [cmpB, if_neg (by rw [hc1]; simp), if_neg (by rw [hc]; simp)], rfl⟩
theorem bl_cons (a b : UInt8) (x y : List UInt8) : Op.bytesLess (a :: x) (b :: y) = true ↔ a.toNat < b.toNat ∨ a = b ∧ Op.bytesLess x y = true := by
  simp only [Op.bytesLess, Bool.or_eq_true, Bool.and_eq_true, decide_eq_true_eq, beq_iff_eq, UInt8.lt_iff_toNat_lt]
theorem bl_irrefl : ∀ a : List UInt8, Op.bytesLess a a = false
  | [] => rfl
  | a :: x => by
    rw [Bool.eq_false_iff]
    intro h
    rcases (bl_cons _ _ _ _).1 h with h | ⟨_, h⟩
    · omega
    · rw [bl_irrefl x] at h; cases h
theorem bl_trans : ∀ {a b c : List UInt8}, Op.bytesLess a b = true → Op.bytesLess b c = true → Op.bytesLess a c = true
  | _, _, [], _, h => by unfold Op.bytesLess at h; cases h
  | [], _, _ :: _, _, _ => rfl
  | _ :: _, [], _, h, _ => by unfold Op.bytesLess at h; cases h
  | a :: x, b :: y, c :: z, h1, h2 => by
    rw [bl_cons] at h1 h2 ⊢
    rcases h1 with h1 | ⟨rfl, h1⟩
    · rcases h2 with h2 | ⟨rfl, h2⟩
      · exact .inl (by omega)
      · exact .inl h1
    · rcases h2 with h2 | ⟨rfl, h2⟩
      · exact .inl h2
      · exact .inr ⟨rfl, bl_trans h1 h2⟩
theorem bl_tri : ∀ (a b : List UInt8), Op.bytesLess a b = true ∨ a = b ∨ Op.bytesLess b a = true
  | [], [] => .inr (.inl rfl)
  | [], _ :: _ => .inl rfl
  | _ :: _, [] => .inr (.inr rfl)
  | a :: x, b :: y => by
    rw [bl_cons, bl_cons]
    rcases Nat.lt_trichotomy a.toNat b.toNat with h | h | h
    · exact .inl (.inl h)
    · obtain rfl := UInt8.toNat_inj.1 h
      rcases bl_tri x y with h | rfl | h
      · exact .inl (.inr ⟨rfl, h⟩)
      · exact .inr (.inl rfl)
      · exact .inr (.inr (.inr ⟨rfl, h⟩))
    · exact .inr (.inr (.inl h))
theorem bl_asymm {a b : List UInt8} (h : Op.bytesLess a b = true) : Op.bytesLess b a = false := by
  rw [Bool.eq_false_iff]
  intro h2
  have := bl_trans h h2
  rw [bl_irrefl] at this; cases this
theorem bl_not {a b : List UInt8} (h : Op.bytesLess a b = false) : b = a ∨ Op.bytesLess b a = true := by
  rcases bl_tri a b with h1 | h1 | h1
  · rw [h1] at h; cases h
  · exact .inl h1.symm
  · exact .inr h1
end Lab
end Go.Proofs.YtmkckngecjpklaaGreatDoor
end
section
open Go Go.Vg Go.RowKit Go.Proofs Go.Proofs.YtmkckngecjpklaaGreatDoor
namespace Go.Proofs.YtmkckngecjpklaaGreatDoor
set_option linter.unusedSimpArgs false
namespace Lab
def sortedL (ls : List Lab) : Prop := ls.Pairwise fun x y => Op.bytesLess y.1 x.1 = false
theorem dw_sorted {l : List Lab} {x : Lab} (h : sortedL l) : ∀ y ∈ l.dropWhile (fun y => Op.bytesLess y.1 x.1), Op.bytesLess y.1 x.1 = false := by
  induction l with
  | nil => simp
  | cons a r ih =>
    intro y hy
    unfold sortedL at h
    rw [List.pairwise_cons] at h
    cases ha : Op.bytesLess a.1 x.1 with
    | true => simp only [List.dropWhile_cons, ha, if_true] at hy; exact ih h.2 y hy
    | false =>
      simp only [List.dropWhile_cons, ha, Bool.false_eq_true, if_false] at hy
      rcases List.mem_cons.1 hy with rfl | hy
      · exact ha
      · have h1 := h.1 y hy
        rw [Bool.eq_false_iff]
        intro h2
        rcases bl_not h1 with e | e
        · rw [e, h2] at ha; cases ha
        · have := bl_trans e h2; rw [this] at ha; cases ha
theorem tw_all {l : List Lab} {x : Lab} : ∀ y ∈ l.takeWhile (fun y => Op.bytesLess y.1 x.1), Op.bytesLess y.1 x.1 = true := by
  induction l with
  | nil => simp
  | cons a r ih =>
    intro y hy
    cases ha : Op.bytesLess a.1 x.1 with
    | true =>
      simp only [List.takeWhile_cons, ha, if_true] at hy
      rcases List.mem_cons.1 hy with rfl | hy
      · exact ha
      · exact ih y hy
    | false => simp only [List.takeWhile_cons, ha, Bool.false_eq_true, if_false] at hy; cases hy
end Lab
end Go.Proofs.YtmkckngecjpklaaGreatDoor
end
section
open Go Go.Vg Go.RowKit Go.Proofs Go.Proofs.YtmkckngecjpklaaGreatDoor
namespace Go.Proofs.YtmkckngecjpklaaGreatDoor.Lab
set_option linter.unusedSimpArgs false

theorem cmpB_neg (a b : List UInt8) : cmpB a b < 0 ↔ Op.bytesLess a b = true := by
  unfold cmpB
  split
  · rename_i h; simp [h]
  · rename_i h
    split
    · simp [h]
    · simp [h]
theorem twl_all {ls : List Lab} {name : List UInt8} {q : Nat} {x : Lab} (hx : (ls.takeWhile fun y : Lab => Op.bytesLess y.1 name)[q]? = some x) : Op.bytesLess x.1 name = true := by
  have hm := List.mem_of_getElem? hx
  have := List.all_eq_true.1 (List.all_takeWhile (l := ls) (p := fun y : Lab => Op.bytesLess y.1 name)) x hm
  simpa using this
theorem lt_lessN {ls : List Lab} {name : List UInt8} (h : sortedL ls) {q : Nat} (_ : q < ls.length) {x : Lab} (hx : ls[q]? = some x) : Op.bytesLess x.1 name = true ↔ q < lessN ls name := by
  have hd := dw_sorted (x := (name, [])) h
  have ht := List.takeWhile_append_dropWhile (p := fun y : Lab => Op.bytesLess y.1 name) (l := ls)
  unfold lessN
  constructor
  · intro hb
    apply Classical.byContradiction
    intro hc
    rw [← ht, List.getElem?_append_right (by omega)] at hx
    have := hd x (List.mem_of_getElem? hx)
    rw [hb] at this; cases this
  · intro hlt
    rw [← ht, List.getElem?_append_left hlt] at hx
    exact twl_all hx
theorem lessN_le (ls : List Lab) (name : List UInt8) : lessN ls name ≤ ls.length := (List.takeWhile_sublist _).length_le

theorem with1_ok (x : Lab) (name : List UInt8) (w : World) : Ret Tryz.prog 186 ⟨[.agg ⟨labC x⟩, S name]⟩ w fun r w' => r = .int .i64 (cmpB x.1 name) ∧ Ext w w' := by
  refine ret_of_G Tryz.func186 rfl Tryz.ntmps186 rfl ?_
  simp only [argEnv]
  refine rn ?_
  refine sBox ?_
  intro w1 hb1 hs1 hx1
  refine rn ?_
  refine sCall c157 (compare_ok x.1 name w1) ?_
  rintro _ _ ⟨rfl, rfl⟩
  refine rn ?_
  refine G.ret1 rfl rfl rfl rfl ?_
  exact ⟨rfl, hx1⟩

theorem bsearch_ok (v : Value) (ls : List Lab) (name : List UInt8) (w : World) (hv : Labs w v ls) (hs : sortedL ls) (hn : ls.length ≤ 1000) :
    Ret Tryz.prog 185 ⟨[v, S name, .func (.func 186) #[] #[]]⟩ w fun r w' => ∃ b, r = .tuple ⟨[.int .i64 (lessN ls name), .bool b]⟩ ∧ Ext w w' := by
  have hle := lessN_le ls name
  refine ret_of_G Tryz.func185 rfl Tryz.ntmps185 rfl ?_
  simp only [argEnv]
  refine rn ?_
  rw [List.length_map]
  refine rn ?_
  refine (G.loop (fun x : Nat × Nat => [(0, none, v), (1, none, S name), (2, none, .func (.func 186) #[] #[]), (8, none, .int .i64 ls.length), (9, none, .int .i64 x.1), (10, none, .int .i64 x.2)]) (fun x w' => Ext w w' ∧ x.1 ≤ lessN ls name ∧ lessN ls name ≤ x.2 ∧ x.2 ≤ ls.length) (fun x => x.2 - x.1) (0, ls.length) (by repeat (first | exact Sub.nil _ | refine Sub.cons rfl ?_)) ⟨Ext.refl _, by simp, hle, Nat.le_refl _⟩ ?_)
  rintro ⟨i, j⟩ w1 ⟨hx1, hi, hj, hjn⟩
  simp only at hi hj hjn ⊢
  have hv1 := hv.to hx1
  refine rn ?_
  first | refine G.condD rfl (fun hc => ?_) (fun hc => ?_) | refine G.condN rfl (fun hc => ?_) (fun hc => ?_) | refine G.cond rfl (fun hc => ?_) (fun hc => ?_)
  · have hij : i < j := by omega
    obtain ⟨h, hh⟩ : ∃ h, h = (i + j) / 2 := ⟨_, rfl⟩
    have hih : i ≤ h ∧ h < j := by omega
    have hlt : h < ls.length := by omega
    obtain ⟨x, hmem, hget, -, -, hgl⟩ := Labs.at hlt
    have hp := lt_lessN (name := name) hs hlt hgl
    refine rn ?_
    refine sAd tb ?_
    refine sCv tb (r := ((i + j : Nat) : Int)) ?_ (hr := (wrap_u64 (by omega) (by omega)).trans (by omega))
    refine sShr (a := ((i + j : Nat) : Int)) (n := 1) (r := (h : Int)) (by rw [hh]; omega) ?_
    refine sCv tb (r := (h : Int)) ?_ (hr := wrap_i64 (by omega) (by omega))
    try (first | refine gl tb ?_ | refine gg tb ?_ | refine ll tb ?_ | refine lg tb ?_); repeat ((first | refine G.condT rfl ?_ | refine G.condF rfl ?_ | refine sFa tb ?_ | refine sLd tb ?_ | refine sLa tb ?_ | refine sLen tb ?_ | refine sFd tb ?_ | refine sBd tb ?_ | refine sIa tb h ?_); try (first | refine gl tb ?_ | refine gg tb ?_ | refine ll tb ?_ | refine lg tb ?_))
    refine GL.cons (Step.callC rfl (Op1.of rfl (by first | exact fun _ => rfl | exact fun h => h | exact fun h => bL h | exact fun h => bL (bL h) | exact fun h => bL (bL (bL h)))) rfl rfl c186 rfl (with1_ok x name w1) ?_)
    rintro _ w2 ⟨rfl, hx2⟩
    refine rn ?_
    first | refine G.condD rfl (fun hc => ?_) (fun hc => ?_) | refine G.condN rfl (fun hc => ?_) (fun hc => ?_) | refine G.cond rfl (fun hc => ?_) (fun hc => ?_)
    · have hlt2 := hp.1 ((cmpB_neg _ _).1 hc)
      refine rn ?_
      refine sAd tb ?_
      refine rn ?_
      exact G.lp (x := (i, j)) (h + 1, j) (by repeat (first | exact Sub.nil _ | refine Sub.cons rfl ?_)) ⟨hx1.trans hx2, by simp only; omega, hj, hjn⟩ (by simp only; omega)
    · have hge : lessN ls name ≤ h := by
        apply Classical.byContradiction
        intro hcc
        exact hc ((cmpB_neg _ _).2 (hp.2 (by omega)))
      refine rn ?_
      exact G.lp (x := (i, j)) (i, h) (by repeat (first | exact Sub.nil _ | refine Sub.cons rfl ?_)) ⟨hx1.trans hx2, hi, hge, by simp only; omega⟩ (by simp only; omega)
  · obtain rfl : i = lessN ls name := by omega
    obtain ⟨p, hp⟩ : ∃ p, p = lessN ls name := ⟨_, rfl⟩
    rw [← hp] at hi hj ⊢
    refine rn ?_
    by_cases hlt : p < ls.length
    · obtain ⟨x, hmem, hget, -, -, hgl⟩ := Labs.at hlt
      try (first | refine gl tb ?_ | refine gg tb ?_ | refine ll tb ?_ | refine lg tb ?_); repeat ((first | refine G.condT rfl ?_ | refine G.condF rfl ?_ | refine sFa tb ?_ | refine sLd tb ?_ | refine sLa tb ?_ | refine sLen tb ?_ | refine sFd tb ?_ | refine sBd tb ?_ | refine sIa tb p ?_); try (first | refine gl tb ?_ | refine gg tb ?_ | refine ll tb ?_ | refine lg tb ?_))
      refine GL.cons (Step.callXC rfl (Op1.of rfl (by first | exact fun _ => rfl | exact fun h => h | exact fun h => bL h | exact fun h => bL (bL h) | exact fun h => bL (bL (bL h)))) rfl (by repeat (first | exact OpL.nil | refine OpL.cons (Op1.of rfl (by first | exact fun _ => rfl | exact fun h => h | exact fun h => bL h | exact fun h => bL (bL h) | exact fun h => bL (bL (bL h)))) ?_)) c186 rfl (fun _ => with1_ok x name w1) ?_ (vs := [.agg ⟨labC x⟩, S name]))
      intro w2 hx2
      refine rn ?_
      refine G.ret2 rfl rfl rfl rfl rfl ?_
      exact ⟨_, rfl, hx1.trans hx2⟩
    · rw [show decide ((p : Int) < ls.length) = false from decide_eq_false (by omega)]
      refine GL.cons (Step.off (v := .bool false) rfl (of_decide_eq_true rfl) rfl ?_)
      refine GL.cons (Step.off (v := .bool false) rfl (of_decide_eq_true rfl) rfl ?_)
      refine rn ?_
      refine GL.cons (Step.off (v := .bool false) rfl (of_decide_eq_true rfl) rfl ?_)
      refine GL.cons (Step.off (v := .bool false) rfl (of_decide_eq_true rfl) rfl ?_)
      refine rn ?_
      refine G.ret2 rfl rfl rfl rfl rfl ?_
      exact ⟨_, rfl, hx1⟩
end Go.Proofs.YtmkckngecjpklaaGreatDoor.Lab
end
section
open Go Go.Vg Go.RowKit Go.Proofs Go.Proofs.YtmkckngecjpklaaGreatDoor
namespace Go.Proofs.YtmkckngecjpklaaGreatDoor.Lab
set_option linter.unusedSimpArgs false

def woL (ls : List Lab) (name : List UInt8) : List Lab := pickL ls [name] false
def withS (ls : List Lab) (name value : List UInt8) : List Lab := if value = [] then woL ls name else putL (woL ls name) (name, value)
theorem woL_snoc (ls : List Lab) (name : List UInt8) (x : Lab) : woL (ls ++ [x]) name = if x.1 = name then woL ls name else woL ls name ++ [x] := by
  unfold woL
  rw [pickL_snoc]
  by_cases h : x.1 = name
  · rw [if_pos h, if_neg (by simp [h])]
  · rw [if_neg h, if_pos (by simp [h])]
theorem putL_at (ls : List Lab) (x : Lab) : (ls.map labC).take (lessN ls x.1) ++ labC x :: (ls.map labC).drop (lessN ls x.1) = (putL ls x).map labC := by
  unfold lessN putL
  rw [← List.map_take, ← List.map_drop, take_tw, drop_tw, List.map_append, List.map_cons]
theorem rest_len (ls : List Lab) (name : List UInt8) : (woL ls name).length ≤ ls.length := pickL_len ..

theorem with_ok (v : Value) (ls : List Lab) (name value : List UInt8) (w : World) (hv : Labs w v ls) (hs : sortedL ls) (hn : ls.length ≤ 1000) :
    Ret Tryz.prog 110 ⟨[v, S name, S value]⟩ w fun r w' => LO w' w.heap.size r (withS ls name value) ∧ Ext w w' := by
  refine ret_of_G Tryz.func110 rfl Tryz.ntmps110 rfl ?_
  simp only [argEnv]
  refine rn ?_
  rw [List.length_map]
  refine rn ?_
  refine (G.loop (fun x : Nat × Value => [(0, none, v), (1, none, S name), (2, none, S value), (7, none, x.2), (12, none, v), (13, none, .int .i64 ls.length), (14, none, .int .i64 x.1)]) (fun x w' => Ext w w' ∧ x.1 ≤ ls.length ∧ LO w' w.heap.size x.2 (woL (ls.take x.1) name)) (fun x => ls.length - x.1) (0, .slice none 0 0) (by repeat (first | exact Sub.nil _ | refine Sub.cons rfl ?_)) ⟨Ext.refl _, by simp, Owns.nil _ _ _ _⟩ ?_)
  rintro ⟨k, s⟩ w2 ⟨hx2, hk, ho⟩
  simp only at hk ho ⊢
  have hv2 := hv.to hx2
  refine rn ?_
  first | refine G.condD rfl (fun hc => ?_) (fun hc => ?_) | refine G.condN rfl (fun hc => ?_) (fun hc => ?_) | refine G.cond rfl (fun hc => ?_) (fun hc => ?_)
  · have hlt : k < ls.length := by omega
    obtain ⟨x, hmem, hget, htk, -, -⟩ := Labs.at hlt
    have hst := woL_snoc (ls.take k) name x
    rw [← htk] at hst
    have hln := rest_len (ls.take k) name
    rw [List.length_take] at hln
    generalize woL (ls.take k) name = out at ho hst hln
    try (first | refine gl tb ?_ | refine gg tb ?_ | refine ll tb ?_ | refine lg tb ?_); repeat ((first | refine G.condT rfl ?_ | refine G.condF rfl ?_ | refine sFa tb ?_ | refine sLd tb ?_ | refine sLa tb ?_ | refine sLen tb ?_ | refine sFd tb ?_ | refine sBd tb ?_ | refine sIa tb k ?_); try (first | refine gl tb ?_ | refine gg tb ?_ | refine ll tb ?_ | refine lg tb ?_))
    refine sAl tb ?_
    intro w3 hb3 hs3 hx3
    refine sSt tb ?_ (vs := labC x) (hv := rfl) (hb := hb3) (h1 := labC_one1 x)
    intro w4 hb4 hw4
    have hx24 : Ext w2 w4 := Below.wr hx3 hw4 (Nat.le_refl _)
    have hx4 := hx2.trans hx24
    have ho4 := ho.to hx24
    have hz4 := hw4.size
    refine rn ?_
    first | refine G.condD rfl (fun hc => ?_) (fun hc => ?_) | refine G.condN rfl (fun hc => ?_) (fun hc => ?_) | refine G.cond rfl (fun hc => ?_) (fun hc => ?_)
    · have hc' : ¬ x.1 = name := by simpa using hc
      rw [if_neg hc'] at hst
      refine rn ?_
      refine sBs' tb [labC x] ?_ (hkl := labLen [x])
      intro v5 w5 ho5 hs5 hx5
      have hx05 := hx4.trans hx5
      refine sApp tb (ho4.to hx5) ho5.sli ?_ (h1 := lab1 [x]) (hB := hx05.size)
      intro v6 w6 ho6 hg6
      refine rn ?_
      refine sAd tb ?_
      refine rn ?_
      refine G.lp (x := (k, s)) (k + 1, v6) (by repeat (first | exact Sub.nil _ | refine Sub.cons rfl ?_)) ⟨hg6.below _ hx05, by simp only; omega, ?_⟩ (by simp only; omega)
      simp only [hst]
      unfold LO; rw [List.map_append]; exact ho6
    · have hc' : x.1 = name := by simpa using hc
      rw [if_pos hc'] at hst
      refine rn ?_
      refine sAd tb ?_
      refine rn ?_
      exact G.lp (x := (k, s)) (k + 1, s) (by repeat (first | exact Sub.nil _ | refine Sub.cons rfl ?_)) ⟨hx4, by simp only; omega, by simp only [hst]; exact ho4⟩ (by simp only; omega)
  · obtain rfl : k = ls.length := by omega
    rw [List.take_length] at ho
    have hso : sortedL (woL ls name) := List.Pairwise.sublist List.filter_sublist hs
    have hrn := rest_len ls name
    have hw : withS ls name value = if value = [] then woL ls name else putL (woL ls name) (name, value) := rfl
    generalize woL ls name = out at ho hso hrn hw
    refine rn ?_
    first | refine G.condD rfl (fun hc => ?_) (fun hc => ?_) | refine G.condN rfl (fun hc => ?_) (fun hc => ?_) | refine G.cond rfl (fun hc => ?_) (fun hc => ?_)
    · rw [if_pos hc] at hw
      refine rn ?_
      refine G.ret1 rfl rfl rfl rfl ?_
      rw [hw]; exact ⟨ho, hx2⟩
    · rw [if_neg hc] at hw
      refine rn ?_
      refine sCall c185 (bsearch_ok s out name w2 ho.sli hso (by omega)) ?_
      rintro _ w3 ⟨b, rfl, hx3⟩
      have hx03 := hx2.trans hx3
      have ho3 := ho.to hx3
      refine rn ?_
      refine sBs' tb [labC (name, value)] ?_ (hkl := labLen [_])
      intro v4 w4 ho4 hs4 hx4
      have hx04 := hx03.trans hx4
      have hle := lessN_le out name
      refine sCall c187 (insert_ok s v4 (out.map labC) (labC (name, value)) (lessN out name) w.heap.size _ w4 (ho3.to hx4) ho4 (ho3.apart ho4) (by rw [List.length_map]; omega) (by rw [List.length_map]; omega) hx04.size (lab1 out) (lab1 [(name, value)])) ?_
      rintro r w5 ⟨ho5, hg5⟩
      refine rn ?_
      refine G.ret1 rfl rfl rfl rfl ?_
      rw [putL_at out (name, value)] at ho5
      rw [hw]
      exact ⟨ho5, hg5.below _ hx04⟩

end Go.Proofs.YtmkckngecjpklaaGreatDoor.Lab
end
section
namespace Go.Proofs
open Go.Shelf
theorem Tryz.Builder_Extra_166 : Builder.Extra Tryz.prog Tryz.lays156_ren := Tryz.Builder_Extra_156
end Go.Proofs
end
section
namespace Go.Rx

theorem decodeN_ext {n n' a b c d b' c' d' : Nat} (hk : (Lib.decodeN n a b c d).2 = n) (hv : ¬ Lib.decodeN n a b c d = (65533, 1)) (h : n ≤ n') (hb : 2 ≤ n → b' = b) (hc : 3 ≤ n → c' = c) (hd : 4 ≤ n → d' = d) : Lib.decodeN n' a b' c' d' = Lib.decodeN n a b c d := by
  have h4 := (decodeN_2 n a b c d).2.2.1
  have h1 := (decodeN_2 n a b c d).1
  unfold Lib.decodeN at hk hv ⊢
  by_cases g1 : a < 128
  · rw [if_pos g1, if_pos g1]
  rw [if_neg g1] at hk hv ⊢
  rw [if_neg g1]
  by_cases g2 : a / 32 = 6 ∧ 1 < n ∧ b / 64 = 2
  · rw [if_pos g2] at hk hv ⊢
    by_cases g3 : a % 32 * 64 + b % 64 ≥ 128
    · have := hb (by omega); subst this
      rw [if_pos (show a / 32 = 6 ∧ 1 < n' ∧ b' / 64 = 2 by omega)]
    · rw [if_neg g3] at hv; exact absurd rfl hv
  rw [if_neg g2] at hk hv ⊢
  by_cases g4 : a / 16 = 14 ∧ (1 < n ∧ b / 64 = 2) ∧ 2 < n ∧ c / 64 = 2
  · rw [if_pos g4] at hk hv ⊢
    have := hb (by omega); subst this
    have := hc (by omega); subst this
    rw [if_neg (show ¬ (a / 32 = 6 ∧ 1 < n' ∧ b' / 64 = 2) by omega), if_pos (show a / 16 = 14 ∧ (1 < n' ∧ b' / 64 = 2) ∧ 2 < n' ∧ c' / 64 = 2 by omega)]
  rw [if_neg g4] at hk hv ⊢
  by_cases g5 : a / 8 = 30 ∧ (1 < n ∧ b / 64 = 2) ∧ (2 < n ∧ c / 64 = 2) ∧ 3 < n ∧ d / 64 = 2
  · rw [if_pos g5] at hk hv ⊢
    have := hb (by omega); subst this
    have := hc (by omega); subst this
    have := hd (by omega); subst this
    rw [if_neg (show ¬ (a / 32 = 6 ∧ 1 < n' ∧ b' / 64 = 2) by omega), if_neg (show ¬ (a / 16 = 14 ∧ (1 < n' ∧ b' / 64 = 2) ∧ 2 < n' ∧ c' / 64 = 2) by omega), if_pos (show a / 8 = 30 ∧ (1 < n' ∧ b' / 64 = 2) ∧ (2 < n' ∧ c' / 64 = 2) ∧ 3 < n' ∧ d' / 64 = 2 by omega)]
  rw [if_neg g5] at hv
  exact absurd rfl hv
theorem decodeN_inj {n n' a b c d a' b' c' d' : Nat} (hv : ¬ Lib.decodeN n a b c d = (65533, 1)) (hv' : ¬ Lib.decodeN n' a' b' c' d' = (65533, 1)) (he : (Lib.decodeN n a b c d).1 = (Lib.decodeN n' a' b' c' d').1) :
    (Lib.decodeN n a b c d).2 = (Lib.decodeN n' a' b' c' d').2 ∧ a = a' ∧ (2 ≤ (Lib.decodeN n a b c d).2 → b = b') ∧ (3 ≤ (Lib.decodeN n a b c d).2 → c = c') ∧ (4 ≤ (Lib.decodeN n a b c d).2 → d = d') := by
  have form : ∀ {n a b c d : Nat}, ¬ Lib.decodeN n a b c d = (65533, 1) →
      (a < 128 ∧ Lib.decodeN n a b c d = (a, 1)) ∨ (a / 32 = 6 ∧ b / 64 = 2 ∧ a % 32 * 64 + b % 64 ≥ 128 ∧ Lib.decodeN n a b c d = (a % 32 * 64 + b % 64, 2)) ∨
      (a / 16 = 14 ∧ b / 64 = 2 ∧ c / 64 = 2 ∧ a % 16 * 4096 + b % 64 * 64 + c % 64 ≥ 2048 ∧ Lib.decodeN n a b c d = (a % 16 * 4096 + b % 64 * 64 + c % 64, 3)) ∨
      (a / 8 = 30 ∧ b / 64 = 2 ∧ c / 64 = 2 ∧ d / 64 = 2 ∧ a % 8 * 262144 + b % 64 * 4096 + c % 64 * 64 + d % 64 ≥ 65536 ∧ Lib.decodeN n a b c d = (a % 8 * 262144 + b % 64 * 4096 + c % 64 * 64 + d % 64, 4)) := by
    intro n a b c d h
    unfold Lib.decodeN at h ⊢
    by_cases g1 : a < 128
    · left; exact ⟨g1, if_pos g1⟩
    rw [if_neg g1] at h ⊢
    by_cases g2 : a / 32 = 6 ∧ 1 < n ∧ b / 64 = 2
    · rw [if_pos g2] at h ⊢
      by_cases g3 : a % 32 * 64 + b % 64 ≥ 128
      · right; left; rw [if_pos g3]; exact ⟨g2.1, g2.2.2, g3, rfl⟩
      · rw [if_neg g3] at h; exact absurd rfl h
    rw [if_neg g2] at h ⊢
    by_cases g4 : a / 16 = 14 ∧ (1 < n ∧ b / 64 = 2) ∧ 2 < n ∧ c / 64 = 2
    · rw [if_pos g4] at h ⊢
      split at h
      · rename_i g5
        right; right; left
        rw [if_pos g5]; exact ⟨g4.1, g4.2.1.2, g4.2.2.2, g5.1, rfl⟩
      · exact absurd rfl h
    rw [if_neg g4] at h ⊢
    by_cases g6 : a / 8 = 30 ∧ (1 < n ∧ b / 64 = 2) ∧ (2 < n ∧ c / 64 = 2) ∧ 3 < n ∧ d / 64 = 2
    · rw [if_pos g6] at h ⊢
      split at h
      · rename_i g7
        right; right; right
        rw [if_pos g7]; exact ⟨g6.1, g6.2.1.2, g6.2.2.1.2, g6.2.2.2.2, g7.1, rfl⟩
      · exact absurd rfl h
    rw [if_neg g6] at h
    exact absurd rfl h
  rcases form hv with ⟨h1, e⟩ | ⟨h1, h2, h3, e⟩ | ⟨h1, h2, h3, h4, e⟩ | ⟨h1, h2, h3, h4, h5, e⟩ <;>
  rcases form hv' with ⟨k1, e'⟩ | ⟨k1, k2, k3, e'⟩ | ⟨k1, k2, k3, k4, e'⟩ | ⟨k1, k2, k3, k4, k5, e'⟩ <;>
  rw [e, e'] at he ⊢ <;> simp only at he ⊢ <;> first | (exfalso; omega) | exact ⟨trivial, by omega, fun _ => by omega, fun _ => by omega, fun _ => by omega⟩ | exact ⟨rfl, by omega, fun _ => by omega, fun _ => by omega, fun _ => by omega⟩

/-- bytes c are character r, well written -/
structure Ch (c : List UInt8) (r : Nat) : Prop where
  pos : 0 < c.length
  cd : Rx.dec c 0 = (r, c.length)
  ok : ¬ Rx.dec c 0 = (65533, 1)
inductive Chs : List UInt8 → List Nat → Prop where
  | nil : Chs [] []
  | cons {c rest : List UInt8} {r : Nat} {rs : List Nat} (h : Ch c r) (t : Chs rest rs) : Chs (c ++ rest) (r :: rs)
theorem getD_app2 {A c B : List UInt8} {k : Nat} (hk : k < c.length) : (A ++ (c ++ B)).getD (A.length + k) 0 = c.getD k 0 := by
  rw [getD_right, getD_left hk]
theorem Ch.at_ {c : List UInt8} {r : Nat} (h : Ch c r) (pre post : List UInt8) {p : Nat} (hp : p = pre.length) : Rx.dec (pre ++ (c ++ post)) p = (r, c.length) := by
  subst hp
  have hpos := h.pos
  have hd := h.cd
  have ho := h.ok
  rw [← h.cd]
  have g0 : (pre ++ (c ++ post)).getD pre.length 0 = c.getD 0 0 := by have := getD_app2 (A := pre) (B := post) hpos; rwa [Nat.add_zero] at this
  have gk : ∀ k, k < c.length → (pre ++ (c ++ post)).getD (pre.length + k) 0 = c.getD k 0 := fun k hk => getD_app2 hk
  unfold Rx.dec at hd ho ⊢
  rw [g0]
  rw [Nat.sub_zero, Nat.zero_add, Nat.zero_add, Nat.zero_add] at hd ho ⊢
  have hl : (pre ++ (c ++ post)).length - pre.length = c.length + post.length := by simp only [List.length_append]; omega
  rw [hl]
  exact decodeN_ext (by rw [hd]) ho (by omega) (fun k => by rw [gk 1 (by omega)]) (fun k => by rw [gk 2 (by omega)]) (fun k => by rw [gk 3 (by omega)])
theorem list_ext {c c' : List UInt8} (hl : c.length = c'.length) (h : ∀ k, k < c.length → c.getD k 0 = c'.getD k 0) : c = c' := by
  refine List.ext_getElem hl fun i h1 h2 => ?_
  have := h i h1
  rw [List.getD_eq_getElem?_getD, List.getD_eq_getElem?_getD, List.getElem?_eq_getElem h1, List.getElem?_eq_getElem h2] at this
  exact this
theorem Ch.inj {c c' : List UInt8} {r : Nat} (h : Ch c r) (h' : Ch c' r) : c = c' := by
  have hd := h.cd
  have ho := h.ok
  have hd' := h'.cd
  have ho' := h'.ok
  unfold Rx.dec at hd ho hd' ho'
  rw [Nat.sub_zero, Nat.zero_add, Nat.zero_add, Nat.zero_add] at hd ho hd' ho'
  obtain ⟨k1, k2, k3, k4, k5⟩ := decodeN_inj ho ho' (by rw [hd, hd'])
  rw [hd] at k1 k3 k4 k5
  rw [hd'] at k1
  simp only at k1 k3 k4 k5
  have h4 : c.length ≤ 4 := by
    have := (decodeN_2 c.length (c.getD 0 0).toNat (c.getD 1 0).toNat (c.getD 2 0).toNat (c.getD 3 0).toNat).2.2.1
    rw [hd] at this; exact this
  refine list_ext k1 fun k hk => UInt8.toNat_inj.1 ?_
  rcases (show k = 0 ∨ k = 1 ∨ k = 2 ∨ k = 3 by omega) with rfl | rfl | rfl | rfl
  · exact k2
  · exact k3 (by omega)
  · exact k4 (by omega)
  · exact k5 (by omega)
theorem Chs.inj {x y : List UInt8} {rs : List Nat} (h : Chs x rs) (h' : Chs y rs) : x = y := by
  induction h generalizing y with
  | nil => cases h'; rfl
  | cons hc _ ih => cases h' with | cons hc' ht' => rw [hc.inj hc', ih ht']
theorem Chs.len {s : List UInt8} {rs : List Nat} (h : Chs s rs) : rs.length ≤ s.length := by
  induction h with
  | nil => exact Nat.le_refl _
  | cons hc _ ih => have := hc.pos; simp only [List.length_cons, List.length_append]; omega
end Go.Rx
end
section
open Go Go.Vg Go.RowKit Go.Proofs Go.Proofs.YtmkckngecjpklaaGreatDoor
namespace Go.Proofs.YtmkckngecjpklaaGreatDoor
set_option linter.unusedSimpArgs false

abbrev Bld (w : World) (B b : Nat) (l : List UInt8) : Prop := Lib.IsBuilder 279 5 B b (Lib.byteCells l) w
theorem wbyte_ok (B b : Nat) (l : List UInt8) (c : UInt8) (w : World) (h : Bld w B b l) (hl : l.length + 1 ≤ 140737488355328) (hB : B ≤ w.heap.size) :
    Ret Tryz.prog 211 ⟨[ptr b, U c]⟩ w fun r w' => r = .nilIface ∧ Bld w' B b (l ++ [c]) ∧ Below B w w' :=
  Calls.mono (Any.Builder_WriteByte Tryz.lays167 Tryz.Builder_Extra_167 B b (Lib.byteCells l) c.toNat w h (by rw [Lib.byteCells_length]; exact hl) hB) fun _ _ ⟨he, h1, h2⟩ =>
    ⟨_, he, rfl, .inr (by rw [Lib.byteCells_append]; exact h1), h2⟩
theorem wstr_ok (B b : Nat) (l s : List UInt8) (w : World) (h : Bld w B b l) (hl : l.length + s.length ≤ 140737488355328) (hB : B ≤ w.heap.size) :
    Ret Tryz.prog 213 ⟨[ptr b, S s]⟩ w fun _ w' => Bld w' B b (l ++ s) ∧ Below B w w' :=
  Calls.mono (Any.Builder_WriteString Tryz.lays166 Tryz.Builder_Extra_166 B b (Lib.byteCells l) ⟨⟨s⟩⟩ w h (by rw [Lib.byteCells_length]; exact hl) hB) fun _ _ ⟨he, h1, h2⟩ =>
    ⟨_, he, .inr (by rw [Lib.byteCells_append]; exact h1), h2⟩
theorem bstr_ok (B b : Nat) (l : List UInt8) (w : World) (h : Bld w B b l) (hB : B ≤ w.heap.size) :
    Ret Tryz.prog 214 ⟨[ptr b]⟩ w fun r w' => r = S l ∧ Below B w w' :=
  Calls.mono (Any.Builder_String_any Tryz.lays169 Tryz.Builder_Extra_169 B b l w h hB) fun _ _ ⟨he, h2⟩ => ⟨_, he, rfl, h2⟩

theorem Bld.ext {w w' : World} {B b : Nat} {l : List UInt8} (h : Bld w B b l) (hx : Ext w w') : Bld w' B b l := by
  have key : ∀ p, Lib.BuilderAt 279 5 B b p (Lib.byteCells l) w → Lib.BuilderAt 279 5 B b p (Lib.byteCells l) w' := by
    rintro p ⟨hB, v, hb, ⟨hl, hr⟩, hn⟩
    refine ⟨hB, v, by rw [hx.block b (Array.getElem?_eq_some_iff.1 hb).1]; exact hb, ⟨hl, ?_⟩, hn⟩
    rcases hr with h | ⟨g, cap, cur, h1, h2, h3, h4⟩
    · exact .inl h
    · exact .inr ⟨g, cap, cur, h1, h2, by rw [hx.block g (Array.getElem?_eq_some_iff.1 h3).1]; exact h3, h4⟩
  rcases h with h | h
  · exact .inl (key _ h)
  · exact .inr (key _ h)

/-- P2.4: well written texts -/
def validN (s : List UInt8) : Nat → Nat → Bool
  | 0, _ => true
  | n + 1, i => if i < s.length then (if u8len s i = 0 then false else validN s n (i + u8len s i)) else true
def validB (s : List UInt8) : Bool := validN s (s.length + 1) 0
theorem valid_ok (s : List UInt8) (w : World) (hs : s.length ≤ 1000) :
    Ret Tryz.prog 122 ⟨[S s]⟩ w fun r w' => r = .bool (validB s) ∧ Ext w w' := by
  refine ret_of_G Tryz.func122 rfl Tryz.ntmps122 rfl ?_
  simp only [argEnv]
  refine rn ?_
  refine (G.loop (fun x : Nat × Nat => [(0, none, S s), (3, none, .int .i64 x.2)]) (fun x W => Ext w W ∧ x.2 ≤ s.length ∧ s.length - x.2 < x.1 ∧ validN s x.1 x.2 = validB s) (fun x => x.1) (s.length + 1, 0) (by repeat (first | exact Sub.nil _ | refine Sub.cons rfl ?_)) ⟨Ext.refl _, Nat.zero_le _, by simp only; omega, rfl⟩ ?_)
  rintro ⟨n, i⟩ W ⟨hx, hi, hn, hL⟩
  simp only at hi hn hL
  show G _ _ [(0, none, S s), (3, none, .int .i64 i)] W
  obtain ⟨n, rfl⟩ : ∃ m, n = m + 1 := ⟨n - 1, by omega⟩
  rw [validN] at hL
  refine rn ?_
  first | refine G.condD rfl (fun hc => ?_) (fun hc => ?_) | refine G.condN rfl (fun hc => ?_) (fun hc => ?_) | refine G.cond rfl (fun hc => ?_) (fun hc => ?_)
  · have hlt : i < s.length := by omega
    rw [if_pos hlt] at hL
    have hle := u8len_le s i hi
    refine rn ?_
    refine sCall c199 (utf8_ok s i W (by omega) hlt) ?_
    rintro _ _ ⟨rfl, rfl⟩
    generalize u8len s i = u at hL hle
    refine rn ?_
    first | refine G.condD rfl (fun hc => ?_) (fun hc => ?_) | refine G.condN rfl (fun hc => ?_) (fun hc => ?_) | refine G.cond rfl (fun hc => ?_) (fun hc => ?_)
    · rw [if_pos (show u = 0 by omega)] at hL
      refine rn ?_
      refine G.ret1 rfl rfl rfl rfl ?_
      exact ⟨by rw [← hL], hx⟩
    · rw [if_neg (show ¬ u = 0 by omega)] at hL
      refine rn ?_
      refine sAd tb (r := ((i + u : Nat) : Int)) ?_
      refine rn ?_
      exact G.lp (x := (n + 1, i)) (n, i + u) (by repeat (first | exact Sub.nil _ | refine Sub.cons rfl ?_)) ⟨hx, by simp only; omega, by simp only; omega, hL⟩ (by simp only; omega)
  · rw [if_neg (show ¬ i < s.length by omega)] at hL
    refine rn ?_
    refine G.ret1 rfl rfl rfl rfl ?_
    exact ⟨by rw [← hL], hx⟩
end Go.Proofs.YtmkckngecjpklaaGreatDoor
end
section
namespace Go.Rx
/-- how many digits a text begins with, from place i on -/
def digN (s : List UInt8) : Nat → Nat → Nat
  | 0, i => i
  | n + 1, i => if i < s.length ∧ 48 ≤ (s.getD i 0).toNat ∧ (s.getD i 0).toNat ≤ 57 then digN s n (i + 1) else i
def digitsP (s : List UInt8) : Nat := digN s s.length 0
/-- the number of so many digits from place 1 on -/
def numN (s : List UInt8) : Nat → Nat
  | 0 => 0
  | n + 1 => 10 * numN s n + ((s.getD (1 + n) 0).toNat - 48)
def namedP (s : List UInt8) : Nat × Nat :=
  if 0 < s.length ∧ 49 ≤ (s.getD 0 0).toNat ∧ (s.getD 0 0).toNat ≤ 57 then ((s.getD 0 0).toNat - 48, 1)
  else if ¬ isB s 0 123 = true then (0, 0)
  else
    let n := digitsP (s.drop 1)
    if n < 1 ∨ 3 < n ∨ ¬ isB s (1 + n) 125 = true ∨ (1 < n ∧ (s.getD 1 0).toNat = 48) then (0, 0) else (numN s n, n + 2)
/-- a group's text -/
def grpP (x : List UInt8) (g : List Int) (k : Nat) : List UInt8 :=
  if 2 * k + 1 < g.length then (if 0 ≤ g.getD (2 * k) 0 ∧ g.getD (2 * k) 0 ≤ g.getD (2 * k + 1) 0 ∧ g.getD (2 * k + 1) 0 ≤ x.length then (x.drop (g.getD (2 * k) 0).toNat).take ((g.getD (2 * k + 1) 0).toNat - (g.getD (2 * k) 0).toNat) else []) else []
def expL (t x : List UInt8) (g : List Int) : Nat → Nat → List UInt8 → List UInt8
  | 0, _, out => out
  | n + 1, i, out =>
    if i < t.length then
      (if (t.getD i 0).toNat ≠ 36 then expL t x g n (i + 1) (out ++ [t.getD i 0])
       else if isB t (i + 1) 36 = true then expL t x g n (i + 2) (out ++ [36])
       else if (namedP (t.drop (i + 1))).2 = 0 then expL t x g n (i + 1) (out ++ [36])
       else expL t x g n (i + 1 + (namedP (t.drop (i + 1))).2) (out ++ grpP x g (namedP (t.drop (i + 1))).1))
    else out
def expandP (t x : List UInt8) (g : List Int) : List UInt8 := expL t x g (t.length + 1) 0 []
theorem digN_le (s : List UInt8) : ∀ n i, i ≤ s.length → i ≤ digN s n i ∧ digN s n i ≤ s.length
  | 0, i, h => ⟨Nat.le_refl _, h⟩
  | n + 1, i, h => by
    rw [digN]
    split
    · have := digN_le s n (i + 1) (by omega)
      exact ⟨by omega, this.2⟩
    · exact ⟨Nat.le_refl _, h⟩
theorem numN_lt (s : List UInt8) : ∀ n, n ≤ 3 → (∀ k, k < n → (s.getD (1 + k) 0).toNat ≤ 57) → numN s n + 1 ≤ 10 ^ n
  | 0, _, _ => by simp [numN]
  | n + 1, h, hd => by
    have h1 := numN_lt s n (by omega) fun k hk => hd k (by omega)
    have h2 := hd n (by omega)
    rw [numN, Nat.pow_succ]
    omega
theorem digN_dig (s : List UInt8) : ∀ n i k, i ≤ k → k < digN s n i → (s.getD k 0).toNat ≤ 57 ∧ 48 ≤ (s.getD k 0).toNat
  | 0, i, k, h1, h2 => by simp only [digN] at h2; omega
  | n + 1, i, k, h1, h2 => by
    rw [digN] at h2
    split at h2
    · rename_i hc
      by_cases he : k = i
      · subst he; exact ⟨hc.2.2, hc.2.1⟩
      · exact digN_dig s n (i + 1) k (by omega) h2
    · omega
theorem namedP_le (s : List UInt8) : (namedP s).1 ≤ 999 ∧ (namedP s).2 ≤ s.length := by
  unfold namedP
  split
  · rename_i h; exact ⟨by simp only; omega, by simp only; omega⟩
  · split
    · exact ⟨Nat.zero_le _, Nat.zero_le _⟩
    · simp only
      split
      · exact ⟨Nat.zero_le _, Nat.zero_le _⟩
      · rename_i h
        have h125 : isB s (1 + digitsP (s.drop 1)) 125 = true := Decidable.byContradiction fun hc => h (.inr (.inr (.inl hc)))
        have hlt : 1 + digitsP (s.drop 1) < s.length := by
          unfold isB at h125
          simp only [Bool.and_eq_true, decide_eq_true_eq] at h125
          exact h125.1
        have hd := numN_lt s (digitsP (s.drop 1)) (by omega) fun k hk => by
          have := (digN_dig (s.drop 1) _ 0 k (Nat.zero_le _) hk).1
          rwa [List.getD_eq_getElem?_getD, List.getElem?_drop, ← List.getD_eq_getElem?_getD] at this
        have h3 : digitsP (s.drop 1) ≤ 3 := by omega
        have : 10 ^ digitsP (s.drop 1) ≤ 10 ^ 3 := Nat.pow_le_pow_right (by omega) h3
        exact ⟨by simp only; omega, by simp only; omega⟩
theorem grpP_len (x : List UInt8) (g : List Int) (k : Nat) : (grpP x g k).length ≤ x.length := by
  unfold grpP
  split
  · split
    · rw [List.length_take, List.length_drop]; omega
    · simp
  · simp
end Go.Rx
end
section
open Go Go.Vg Go.RowKit Go.Proofs Go.Proofs.YtmkckngecjpklaaGreatDoor
namespace Go.Proofs.YtmkckngecjpklaaGreatDoor
set_option linter.unusedSimpArgs false

theorem hp1_ok (s : List UInt8) (b : UInt8) (w : World) : Ret Tryz.prog 159 ⟨[S s, S [b]]⟩ w fun r w' => r = .bool (Rx.isB s 0 b) ∧ Ext w w' :=
  Calls.mono (Any.strings_HasPrefix Tryz.lays99 ⟨⟨s⟩⟩ ⟨⟨[b]⟩⟩ w) fun _ _ ⟨he, hw⟩ => ⟨_, he, by
    show Value.bool (Lib.hasPrefix s [b]) = _
    congr 1
    unfold Lib.hasPrefix Rx.isB
    rw [Bool.eq_iff_iff]
    rcases s with _ | ⟨x, r⟩ <;> simp
    exact ⟨fun h => h.symm, fun h => h.symm⟩, by rw [hw]; exact Ext.refl _⟩
theorem isB_drop (s : List UInt8) (a : Nat) (b : UInt8) : Rx.isB (s.drop a) 0 b = Rx.isB s a b := by
  unfold Rx.isB
  rw [Rx.getD_drop, Nat.add_zero, List.length_drop]
  congr 1
  rw [Bool.eq_iff_iff, decide_eq_true_eq, decide_eq_true_eq]
  omega
theorem digits_ok (s : List UInt8) (w : World) (hs : s.length ≤ 1000000) :
    Ret Tryz.prog 264 ⟨[S s]⟩ w fun r w' => r = .int .i64 (Rx.digitsP s) ∧ Ext w w' := by
  refine ret_of_G Tryz.func264 rfl Tryz.ntmps264 rfl ?_
  simp only [argEnv]
  refine rn ?_
  refine (G.loop (fun x : Nat × Nat => [(0, none, S s), (3, none, .int .i64 x.2)]) (fun x W => Ext w W ∧ x.2 ≤ s.length ∧ s.length - x.2 ≤ x.1 ∧ Rx.digN s x.1 x.2 = Rx.digitsP s) (fun x => x.1) (s.length, 0) (by repeat (first | exact Sub.nil _ | refine Sub.cons rfl ?_)) ⟨Ext.refl _, Nat.zero_le _, by simp only; omega, rfl⟩ ?_)
  rintro ⟨n, i⟩ W ⟨hx, hi, hn, hL⟩
  simp only at hi hn hL
  show G _ _ [(0, none, S s), (3, none, .int .i64 i)] W
  have hp : ∀ {c : Bool}, (decide ((i : Int) < s.length) && c) = true → i < s.length := fun {c} h => by
    rw [Bool.and_eq_true, decide_eq_true_eq] at h
    omega
  have hp0 : decide ((i : Int) < s.length) = true → i < s.length := fun h => by
    rw [decide_eq_true_eq] at h
    omega
  refine rn ?_
  refine GL.cons (Step.indexS tb i rfl (Op1.of rfl (by first | exact fun _ => rfl | exact fun h => h | exact fun h => bL h | exact fun h => bL (bL h) | exact fun h => bL (bL (bL h)))) (Op1.of rfl (by first | exact fun _ => rfl | exact fun h => h | exact fun h => bL h | exact fun h => bL (bL h) | exact fun h => bL (bL (bL h)))) rfl (fun hc => ⟨rfl, hp0 hc⟩) rfl ?_)
  refine rn ?_
  refine GL.cons (Step.indexS tb i rfl (Op1.of rfl (by first | exact fun _ => rfl | exact fun h => h | exact fun h => bL h | exact fun h => bL (bL h) | exact fun h => bL (bL (bL h)))) (Op1.of rfl (by first | exact fun _ => rfl | exact fun h => h | exact fun h => bL h | exact fun h => bL (bL h) | exact fun h => bL (bL (bL h)))) rfl (fun hc => ⟨rfl, hp hc⟩) rfl ?_)
  refine rn ?_
  first | refine G.condD rfl (fun hc => ?_) (fun hc => ?_) | refine G.condN rfl (fun hc => ?_) (fun hc => ?_) | refine G.cond rfl (fun hc => ?_) (fun hc => ?_)
  · have hc' : i < s.length ∧ 48 ≤ (s.getD i 0).toNat ∧ (s.getD i 0).toNat ≤ 57 := by
      simp only [Bool.and_eq_true, decide_eq_true_eq] at hc
      omega
    obtain ⟨n, rfl⟩ : ∃ m, n = m + 1 := ⟨n - 1, by omega⟩
    rw [Rx.digN, if_pos hc'] at hL
    refine rn ?_
    refine sAd tb (r := ((i + 1 : Nat) : Int)) ?_
    refine rn ?_
    exact G.lp (x := (n + 1, i)) (n, i + 1) (by repeat (first | exact Sub.nil _ | refine Sub.cons rfl ?_)) ⟨hx, by simp only; omega, by simp only; omega, hL⟩ (by simp only; omega)
  · have hc' : ¬ (i < s.length ∧ 48 ≤ (s.getD i 0).toNat ∧ (s.getD i 0).toNat ≤ 57) := by
      rintro ⟨h1, h2, h3⟩
      simp only [Bool.and_eq_false_iff, decide_eq_false_iff_not] at hc
      omega
    have hi' : i = Rx.digitsP s := by
      rw [← hL]
      cases n with
      | zero => rfl
      | succ n => rw [Rx.digN, if_neg hc']
    refine rn ?_
    refine G.ret1 rfl rfl rfl rfl ?_
    exact ⟨by rw [hi'], hx⟩
set_option maxHeartbeats 4000000 in
theorem named_ok (s : List UInt8) (w : World) (hs : s.length ≤ 1000000) :
    Ret Tryz.prog 212 ⟨[S s]⟩ w fun r w' => r = .tuple ⟨[.int .i64 (Rx.namedP s).1, .int .i64 (Rx.namedP s).2]⟩ ∧ Ext w w' := by
  have hs0 : ∀ {c : Bool}, (!decide (s = []) && c) = true → 0 < s.length := fun {c} h => by
    rw [Bool.and_eq_true, Bool.not_eq_true', decide_eq_false_iff_not] at h
    exact List.length_pos_iff.2 h.1
  have hs1 : (!decide (s = [])) = true → 0 < s.length := fun h => by
    rw [Bool.not_eq_true', decide_eq_false_iff_not] at h
    exact List.length_pos_iff.2 h
  refine ret_of_G Tryz.func212 rfl Tryz.ntmps212 rfl ?_
  simp only [argEnv]
  refine rn ?_
  refine GL.cons (Step.indexS tb 0 rfl (Op1.of rfl (by first | exact fun _ => rfl | exact fun h => h | exact fun h => bL h | exact fun h => bL (bL h) | exact fun h => bL (bL (bL h)))) (Op1.of rfl (by first | exact fun _ => rfl | exact fun h => h | exact fun h => bL h | exact fun h => bL (bL h) | exact fun h => bL (bL (bL h)))) rfl (fun hc => ⟨rfl, hs1 hc⟩) rfl ?_)
  refine rn ?_
  refine GL.cons (Step.indexS tb 0 rfl (Op1.of rfl (by first | exact fun _ => rfl | exact fun h => h | exact fun h => bL h | exact fun h => bL (bL h) | exact fun h => bL (bL (bL h)))) (Op1.of rfl (by first | exact fun _ => rfl | exact fun h => h | exact fun h => bL h | exact fun h => bL (bL h) | exact fun h => bL (bL (bL h)))) rfl (fun hc => ⟨rfl, hs0 hc⟩) rfl ?_)
  refine rn ?_
  first | refine G.condD rfl (fun hc => ?_) (fun hc => ?_) | refine G.condN rfl (fun hc => ?_) (fun hc => ?_) | refine G.cond rfl (fun hc => ?_) (fun hc => ?_)
  · have hc' : 0 < s.length ∧ 49 ≤ (s.getD 0 0).toNat ∧ (s.getD 0 0).toNat ≤ 57 := by
      simp only [Bool.and_eq_true, Bool.not_eq_true', decide_eq_true_eq, decide_eq_false_iff_not] at hc
      have := List.length_pos_iff.2 hc.1.1
      omega
    have hP : Rx.namedP s = ((s.getD 0 0).toNat - 48, 1) := by unfold Rx.namedP; rw [if_pos hc']
    rw [hP]
    refine rn ?_
    refine sBs tb 0 ?_
    refine rn ?_
    refine GL.cons (Step.arith (k := .u8) (a := (s.getD 0 0).toNat) (r := ((s.getD 0 0).toNat - 48 : Nat)) rfl (Op1.of rfl (by first | exact fun _ => rfl | exact fun h => h | exact fun h => bL h | exact fun h => bL (bL h) | exact fun h => bL (bL (bL h)))) (Op1.of rfl (by first | exact fun _ => rfl | exact fun h => h | exact fun h => bL h | exact fun h => bL (bL h) | exact fun h => bL (bL (bL h)))) (by show IntKind.u8.wrap _ = _; rw [wrap_u8 (by omega) (by omega)]; omega) rfl ?_)
    refine rn ?_
    refine sCv tb (r := (((s.getD 0 0).toNat - 48 : Nat) : Int)) ?_
    refine rn ?_
    refine G.ret2 rfl rfl rfl rfl rfl ?_
    exact ⟨rfl, Ext.refl _⟩
  have hc1 : ¬ (0 < s.length ∧ 49 ≤ (s.getD 0 0).toNat ∧ (s.getD 0 0).toNat ≤ 57) := by
    rintro ⟨h1, h2, h3⟩
    have hne : s ≠ [] := List.length_pos_iff.1 h1
    simp only [Bool.and_eq_false_iff, Bool.not_eq_false', decide_eq_true_eq, decide_eq_false_iff_not] at hc
    rcases hc with (hc | hc) | hc
    · exact hne hc
    · omega
    · omega
  clear hc hs0 hs1
  refine rn ?_
  refine sCall c159 (hp1_ok s 123 w) ?_
  rintro _ W1 ⟨rfl, hx1⟩
  refine rn ?_
  first | refine G.condD rfl (fun hc => ?_) (fun hc => ?_) | refine G.condN rfl (fun hc => ?_) (fun hc => ?_) | refine G.cond rfl (fun hc => ?_) (fun hc => ?_)
  · have hc2 : ¬ Rx.isB s 0 123 = true := by simpa using hc
    have hP : Rx.namedP s = (0, 0) := by unfold Rx.namedP; rw [if_neg hc1, if_pos hc2]
    rw [hP]
    refine rn ?_
    refine G.ret2 rfl rfl rfl rfl rfl ?_
    exact ⟨rfl, hx1⟩
  have hc2 : Rx.isB s 0 123 = true := by simpa using hc
  clear hc
  have hpos : 0 < s.length := by
    unfold Rx.isB at hc2
    simp only [Bool.and_eq_true, decide_eq_true_eq] at hc2
    exact hc2.1
  have hP : Rx.namedP s = if Rx.digitsP (s.drop 1) < 1 ∨ 3 < Rx.digitsP (s.drop 1) ∨ ¬ Rx.isB s (1 + Rx.digitsP (s.drop 1)) 125 = true ∨ (1 < Rx.digitsP (s.drop 1) ∧ (s.getD 1 0).toNat = 48) then (0, 0) else (Rx.numN s (Rx.digitsP (s.drop 1)), Rx.digitsP (s.drop 1) + 2) := by
    unfold Rx.namedP; rw [if_neg hc1, if_neg (fun h => h hc2)]
  have hdl := (Rx.digN_le (s.drop 1) (s.drop 1).length 0 (Nat.zero_le _)).2
  have hdg : ∀ k, k < Rx.digitsP (s.drop 1) → (s.getD (1 + k) 0).toNat ≤ 57 ∧ 48 ≤ (s.getD (1 + k) 0).toNat := fun k hk => by
    have := Rx.digN_dig (s.drop 1) _ 0 k (Nat.zero_le _) hk
    rwa [Rx.getD_drop] at this
  have hdl : Rx.digitsP (s.drop 1) ≤ s.length - 1 := by
    rw [List.length_drop] at hdl
    unfold Rx.digitsP
    rw [List.length_drop]
    exact hdl
  refine rn ?_
  refine GL.cons (Step.sliceSl tb 1 rfl (Op1.of rfl (by first | exact fun _ => rfl | exact fun h => h | exact fun h => bL h | exact fun h => bL (bL h) | exact fun h => bL (bL (bL h)))) (Op1.of rfl (by first | exact fun _ => rfl | exact fun h => h | exact fun h => bL h | exact fun h => bL (bL h) | exact fun h => bL (bL (bL h)))) rfl (fun _ => ⟨rfl, by omega⟩) rfl ?_)
  refine rn ?_
  refine sCall c264 (digits_ok (s.drop 1) W1 (by rw [List.length_drop]; omega)) ?_
  rintro _ W2 ⟨rfl, hx2⟩
  generalize Rx.digitsP (s.drop 1) = d at hP hdl hdg ⊢
  have hx2 := hx1.trans hx2
  refine rn ?_
  refine sAd tb (r := ((1 + d : Nat) : Int)) ?_
  refine rn ?_
  refine GL.cons (Step.sliceSl tb (1 + d) rfl (Op1.of rfl (by first | exact fun _ => rfl | exact fun h => h | exact fun h => bL h | exact fun h => bL (bL h) | exact fun h => bL (bL (bL h)))) (Op1.of rfl (by first | exact fun _ => rfl | exact fun h => h | exact fun h => bL h | exact fun h => bL (bL h) | exact fun h => bL (bL (bL h)))) rfl (fun _ => ⟨rfl, by omega⟩) rfl ?_)
  refine rn ?_
  refine GL.cons (Step.callX rfl rfl (by repeat (first | exact OpL.nil | refine OpL.cons (Op1.of rfl (by first | exact fun _ => rfl | exact fun h => h | exact fun h => bL h | exact fun h => bL (bL h) | exact fun h => bL (bL (bL h)))) ?_)) c159 rfl (fun hc => hp1_ok (s.drop (1 + d)) 125 W2) ?_)
  intro W3 hx3
  have hx3 := hx2.trans hx3
  rw [isB_drop]
  refine rn ?_
  refine GL.cons (Step.indexS tb 1 rfl (Op1.of rfl (by first | exact fun _ => rfl | exact fun h => h | exact fun h => bL h | exact fun h => bL (bL h) | exact fun h => bL (bL (bL h)))) (Op1.of rfl (by first | exact fun _ => rfl | exact fun h => h | exact fun h => bL h | exact fun h => bL (bL h) | exact fun h => bL (bL (bL h)))) rfl (fun hc => ⟨rfl, by
    have h := hc
    simp only [cv, Bool.and_eq_true, decide_eq_true_eq] at h
    omega⟩) rfl ?_)
  refine rn ?_
  first | refine G.condD rfl (fun hc => ?_) (fun hc => ?_) | refine G.condN rfl (fun hc => ?_) (fun hc => ?_) | refine G.cond rfl (fun hc => ?_) (fun hc => ?_)
  · have hc3 : d < 1 ∨ 3 < d ∨ ¬ Rx.isB s (1 + d) 125 = true ∨ (1 < d ∧ (s.getD 1 0).toNat = 48) := by
      simp only [Bool.or_eq_true, Bool.and_eq_true, Bool.not_eq_true', decide_eq_true_eq] at hc
      rcases hc with ((h | h) | h) | h
      · left; omega
      · right; left; omega
      · right; right; left; rw [h]; exact Bool.false_ne_true
      · right; right; right; omega
    rw [if_pos hc3] at hP
    rw [hP]
    refine rn ?_
    refine G.ret2 rfl rfl rfl rfl rfl ?_
    exact ⟨rfl, hx3⟩
  have hc3 : ¬ (d < 1 ∨ 3 < d ∨ ¬ Rx.isB s (1 + d) 125 = true ∨ (1 < d ∧ (s.getD 1 0).toNat = 48)) := by
    simp only [Bool.or_eq_false_iff, Bool.and_eq_false_iff, Bool.not_eq_false', decide_eq_false_iff_not] at hc
    obtain ⟨⟨⟨h1, h2⟩, h3⟩, h4⟩ := hc
    rintro (h | h | h | h)
    · omega
    · omega
    · exact h h3
    · omega
  rw [if_neg hc3] at hP
  rw [hP]
  clear hc hc1 hc2 hP
  have hd3 : d ≤ 3 := by omega
  have hnl := Rx.numN_lt s
  refine rn ?_
  refine (G.loop (fun k : Nat => [(0, none, S s), (2, none, .int .i64 (Rx.numN s k)), (4, none, .int .i64 d), (51, none, .int .i64 d), (52, none, .int .i64 k)]) (fun k W => Ext w W ∧ k ≤ d) (fun k => d - k) 0 (by repeat (first | exact Sub.nil _ | refine Sub.cons rfl ?_)) ⟨hx3, Nat.zero_le _⟩ ?_)
  rintro k W ⟨hx, hk⟩
  have hnk := hnl k (by omega) fun j hj => (hdg j (by omega)).1
  have hpk : 10 ^ k ≤ 10 ^ 3 := Nat.pow_le_pow_right (by omega) (by omega)
  refine rn ?_
  first | refine G.condD rfl (fun hc => ?_) (fun hc => ?_) | refine G.condN rfl (fun hc => ?_) (fun hc => ?_) | refine G.cond rfl (fun hc => ?_) (fun hc => ?_)
  · have hlt : k < d := by omega
    have hdk := hdg k hlt
    refine rn ?_
    refine sAd tb (r := ((10 * Rx.numN s k : Nat) : Int)) ?_ (hp := by show IntKind.i64.wrap _ = _; rw [wrap_i64 (by omega) (by omega)]; omega)
    refine rn ?_
    refine sAd tb (r := ((1 + k : Nat) : Int)) ?_
    refine rn ?_
    refine sBs tb (1 + k) ?_
    have hnx : Rx.numN s (k + 1) = 10 * Rx.numN s k + ((s.getD (1 + k) 0).toNat - 48) := rfl
    generalize (s.getD (1 + k) 0) = c at hdk hnx ⊢
    refine rn ?_
    refine GL.cons (Step.arith (k := .u8) (a := c.toNat) (r := (c.toNat - 48 : Nat)) rfl (Op1.of rfl (by first | exact fun _ => rfl | exact fun h => h | exact fun h => bL h | exact fun h => bL (bL h) | exact fun h => bL (bL (bL h)))) (Op1.of rfl (by first | exact fun _ => rfl | exact fun h => h | exact fun h => bL h | exact fun h => bL (bL h) | exact fun h => bL (bL (bL h)))) (by show IntKind.u8.wrap _ = _; rw [wrap_u8 (by omega) (by omega)]; omega) rfl ?_)
    refine rn ?_
    refine sCv tb (r := ((c.toNat - 48 : Nat) : Int)) ?_
    refine rn ?_
    refine sAd tb (r := ((Rx.numN s (k + 1) : Nat) : Int)) ?_ (hp := by show IntKind.i64.wrap _ = _; rw [hnx, wrap_i64 (by omega) (by omega)]; omega)
    refine rn ?_
    refine sAd tb (r := ((k + 1 : Nat) : Int)) ?_
    refine rn ?_
    exact G.lp (x := k) (k + 1) (by repeat (first | exact Sub.nil _ | refine Sub.cons rfl ?_)) ⟨hx, by omega⟩ (by omega)
  · have hke : k = d := by omega
    subst hke
    refine rn ?_
    refine sAd tb (r := ((k + 2 : Nat) : Int)) ?_
    refine rn ?_
    refine G.ret2 rfl rfl rfl rfl rfl ?_
    exact ⟨rfl, hx⟩
def OutB (out : List UInt8) (i : Nat) : Prop := out.length ≤ i * 100001
theorem outB {out : List UInt8} {i : Nat} (h : out.length ≤ i * 100001) : OutB out i := h
theorem out_le {out : List UInt8} {i m : Nat} (h : out.length ≤ i * 100001) (l : List UInt8) (hl : l.length ≤ m * 100001) : OutB (out ++ l) (i + m) := by
  unfold OutB
  rw [List.length_append, Nat.add_mul]; omega
set_option maxHeartbeats 8000000 in
theorem expand_ok (t x : List UInt8) (g : List Int) (v : Value) (w : World) (ht : t.length ≤ 2000) (hx0 : x.length ≤ 100000) (_ : g.length ≤ 100000) (hv : Sli w v 1 (g.map inC)) :
    Ret Tryz.prog 136 ⟨[S t, S x, v]⟩ w fun r w' => r = S (Rx.expandP t x g) ∧ Ext w w' := by
  refine ret_of_G Tryz.func136 rfl Tryz.ntmps136 rfl ?_
  simp only [argEnv]
  refine rn ?_
  refine GL.cons (Step.allocE tb rfl rfl rfl rfl ?_)
  have hx1 : Ext w (w.alloc (.cells ⟨[.pointer none, .slice none 0 0]⟩ 279)) := Ext.alloc _ _
  have hb1 : Bld (w.alloc (.cells ⟨[.pointer none, .slice none 0 0]⟩ 279)) w.heap.size w.heap.size [] :=
    .inl ⟨Nat.le_refl _, _, heap_alloc_new _ _, World.ownsRow_nil _ _ _ _, by simp [Value.ownBlock]⟩
  generalize w.alloc (.cells ⟨[.pointer none, .slice none 0 0]⟩ 279) = w1 at hx1 hb1 ⊢
  refine rn ?_
  refine (G.loop (fun y : Nat × Nat × List UInt8 => [(0, none, S t), (1, none, S x), (2, none, v), (7, none, ptr w.heap.size), (8, none, .int .i64 y.2.1)]) (fun y W => Ext w W ∧ y.2.1 ≤ t.length ∧ t.length - y.2.1 < y.1 ∧ Bld W w.heap.size w.heap.size y.2.2 ∧ OutB y.2.2 y.2.1 ∧ Rx.expL t x g y.1 y.2.1 y.2.2 = Rx.expandP t x g) (fun y => y.1) (t.length + 1, 0, []) (by repeat (first | exact Sub.nil _ | refine Sub.cons rfl ?_)) ⟨hx1, Nat.zero_le _, by simp only; omega, hb1, outB (Nat.zero_le _), rfl⟩ ?_)
  clear hx1 hb1
  rintro ⟨n, i, out⟩ W ⟨hx, hi, hn, hb, hol, hL⟩
  simp only at hi hn hb hol hL
  have hol : out.length ≤ i * 100001 := hol
  show G _ _ [(0, none, S t), (1, none, S x), (2, none, v), (7, none, ptr w.heap.size), (8, none, .int .i64 i)] W
  obtain ⟨n, rfl⟩ : ∃ m, n = m + 1 := ⟨n - 1, by omega⟩
  rw [Rx.expL] at hL
  refine rn ?_
  first | refine G.condD rfl (fun hc => ?_) (fun hc => ?_) | refine G.condN rfl (fun hc => ?_) (fun hc => ?_) | refine G.cond rfl (fun hc => ?_) (fun hc => ?_)
  rotate_left
  · rw [if_neg (by omega)] at hL
    refine rn ?_
    refine sCall c214 (bstr_ok w.heap.size w.heap.size _ W hb hx.size) ?_
    rintro _ W2 ⟨rfl, hx2⟩
    refine rn ?_
    refine G.ret1 rfl rfl rfl rfl ?_
    exact ⟨by rw [← hL], Below.trans (B := w.heap.size) hx hx2⟩
  have hlt : i < t.length := by omega
  rw [if_pos hlt] at hL
  refine rn ?_
  refine sBs tb i ?_
  refine rn ?_
  first | refine G.condD rfl (fun hc => ?_) (fun hc => ?_) | refine G.condN rfl (fun hc => ?_) (fun hc => ?_) | refine G.cond rfl (fun hc => ?_) (fun hc => ?_)
  · have h36 : (t.getD i 0).toNat ≠ 36 := by
      intro h
      rw [h] at hc
      simp at hc
    rw [if_pos h36] at hL
    refine rn ?_
    refine sBs tb i ?_
    refine rn ?_
    refine sCall c211 (wbyte_ok w.heap.size w.heap.size _ (t.getD i 0) W hb (by omega) hx.size) ?_
    rintro _ W2 ⟨rfl, hb2, hx2⟩
    refine rn ?_
    refine sAd tb (r := ((i + 1 : Nat) : Int)) ?_
    refine rn ?_
    exact G.lp (x := (n + 1, i, out)) (n, i + 1, out ++ [t.getD i 0]) (by repeat (first | exact Sub.nil _ | refine Sub.cons rfl ?_)) ⟨Below.trans (B := w.heap.size) hx hx2, by simp only; omega, by simp only; omega, hb2, out_le hol _ (by simp), hL⟩ (by simp only; omega)
  have h36 : ¬ (t.getD i 0).toNat ≠ 36 := by
    intro h
    have hc : ((t.getD i 0).toNat : Int) = 36 := hc
    omega
  rw [if_neg h36] at hL
  clear hc
  refine rn ?_
  refine sAd tb (r := ((i + 1 : Nat) : Int)) ?_
  refine rn ?_
  refine GL.cons (Step.sliceSl tb (i + 1) rfl (Op1.of rfl (by first | exact fun _ => rfl | exact fun h => h | exact fun h => bL h | exact fun h => bL (bL h) | exact fun h => bL (bL (bL h)))) (Op1.of rfl (by first | exact fun _ => rfl | exact fun h => h | exact fun h => bL h | exact fun h => bL (bL h) | exact fun h => bL (bL (bL h)))) rfl (fun _ => ⟨rfl, by omega⟩) rfl ?_)
  refine rn ?_
  refine sCall c159 (hp1_ok (t.drop (i + 1)) 36 W) ?_
  rintro _ W1 ⟨rfl, hx1⟩
  rw [isB_drop]
  have hb := Bld.ext hb hx1
  have hx := hx.trans hx1
  refine rn ?_
  first | refine G.condD rfl (fun hc => ?_) (fun hc => ?_) | refine G.condN rfl (fun hc => ?_) (fun hc => ?_) | refine G.cond rfl (fun hc => ?_) (fun hc => ?_)
  · have h2 : Rx.isB t (i + 1) 36 = true := hc
    rw [if_pos h2] at hL
    have hlt2 : i + 1 < t.length := by
      unfold Rx.isB at h2
      simp only [Bool.and_eq_true, decide_eq_true_eq] at h2
      exact h2.1
    refine rn ?_
    refine sCall c211 (wbyte_ok w.heap.size w.heap.size _ 36 W1 hb (by omega) hx.size) ?_
    rintro _ W2 ⟨rfl, hb2, hx2⟩
    refine rn ?_
    refine sAd tb (r := ((i + 2 : Nat) : Int)) ?_
    refine rn ?_
    exact G.lp (x := (n + 1, i, out)) (n, i + 2, out ++ [36]) (by repeat (first | exact Sub.nil _ | refine Sub.cons rfl ?_)) ⟨Below.trans (B := w.heap.size) hx hx2, by simp only; omega, by simp only; omega, hb2, out_le (m := 2) hol _ (by simp), hL⟩ (by simp only; omega)
  have h2 : ¬ Rx.isB t (i + 1) 36 = true := by
    have hc : Rx.isB t (i + 1) 36 = false := hc
    rw [hc]; exact Bool.false_ne_true
  rw [if_neg h2] at hL
  clear hc
  refine rn ?_
  refine GL.cons (Step.sliceSl tb (i + 1) rfl (Op1.of rfl (by first | exact fun _ => rfl | exact fun h => h | exact fun h => bL h | exact fun h => bL (bL h) | exact fun h => bL (bL (bL h)))) (Op1.of rfl (by first | exact fun _ => rfl | exact fun h => h | exact fun h => bL h | exact fun h => bL (bL h) | exact fun h => bL (bL (bL h)))) rfl (fun _ => ⟨rfl, by omega⟩) rfl ?_)
  refine rn ?_
  refine sCall c212 (named_ok (t.drop (i + 1)) W1 (by rw [List.length_drop]; omega)) ?_
  rintro _ W2 ⟨rfl, hx2⟩
  have hnl := Rx.namedP_le (t.drop (i + 1))
  rw [List.length_drop] at hnl
  generalize Rx.namedP (t.drop (i + 1)) = km at hL hnl ⊢
  obtain ⟨k, m⟩ := km
  simp only at hL hnl
  have hb := Bld.ext hb hx2
  have hx := hx.trans hx2
  refine rn ?_
  first | refine G.condD rfl (fun hc => ?_) (fun hc => ?_) | refine G.condN rfl (fun hc => ?_) (fun hc => ?_) | refine G.cond rfl (fun hc => ?_) (fun hc => ?_)
  · have hm : m = 0 := by omega
    rw [if_pos hm] at hL
    refine rn ?_
    refine sCall c211 (wbyte_ok w.heap.size w.heap.size _ 36 W2 hb (by omega) hx.size) ?_
    rintro _ W3 ⟨rfl, hb3, hx3⟩
    refine rn ?_
    exact G.lp (x := (n + 1, i, out)) (n, i + 1, out ++ [36]) (by repeat (first | exact Sub.nil _ | refine Sub.cons rfl ?_)) ⟨Below.trans (B := w.heap.size) hx hx3, by simp only; omega, by simp only; omega, hb3, out_le hol _ (by simp), hL⟩ (by simp only; omega)
  have hm : ¬ m = 0 := by omega
  rw [if_neg hm] at hL
  have hgl := Rx.grpP_len x g k
  have hgm : (g.map inC).length = g.length := by simp
  refine rn ?_
  refine sAd tb (r := ((i + 1 + m : Nat) : Int)) ?_
  refine rn ?_
  refine sAd tb (r := ((2 * k : Nat) : Int)) ?_
  refine rn ?_
  refine sAd tb (r := ((2 * k + 1 : Nat) : Int)) ?_
  have hv2 := hv.to hx
  refine rn ?_
  rw [hgm]
  refine rn ?_
  first | refine G.condD rfl (fun hc => ?_) (fun hc => ?_) | refine G.condN rfl (fun hc => ?_) (fun hc => ?_) | refine G.cond rfl (fun hc => ?_) (fun hc => ?_)
  rotate_left
  · have hng : Rx.grpP x g k = [] := by unfold Rx.grpP; rw [if_neg (by omega)]
    rw [hng, List.append_nil] at hL
    refine rn ?_
    exact G.lp (x := (n + 1, i, out)) (n, i + 1 + m, out) (by repeat (first | exact Sub.nil _ | refine Sub.cons rfl ?_)) ⟨hx, by simp only; omega, by simp only; omega, hb, outB (i := i + 1 + m) (Nat.le_trans hol (Nat.mul_le_mul_right _ (by omega))), hL⟩ (by simp only; omega)
  have hlk : 2 * k + 1 < g.length := by omega
  have hge : ∀ j, j < g.length → (g.map inC)[j]? = some [.int .i64 (g.getD j 0)] := fun j hj => by
    rw [List.getElem?_map, List.getD_eq_getElem?_getD, List.getElem?_eq_getElem hj]; rfl
  have hg1 := hge (2 * k) (by omega)
  have hg2 := hge (2 * k + 1) hlk
  have hgp : Rx.grpP x g k = if 0 ≤ g.getD (2 * k) 0 ∧ g.getD (2 * k) 0 ≤ g.getD (2 * k + 1) 0 ∧ g.getD (2 * k + 1) 0 ≤ x.length then (x.drop (g.getD (2 * k) 0).toNat).take ((g.getD (2 * k + 1) 0).toNat - (g.getD (2 * k) 0).toNat) else [] := by
    unfold Rx.grpP; rw [if_pos hlk]
  generalize g.getD (2 * k) 0 = f1 at hg1 hgp
  generalize g.getD (2 * k + 1) 0 = f2 at hg2 hgp
  clear hge hc
  refine rn ?_
  refine G.regionM [(0, true), (1, true), (2, true), (3, true), (4, true), (5, true), (6, true), (7, true), (8, true), (9, true), (10, true), (11, true), (12, true)] (Ext W2) (by kernel_rfl) (by kernel_rfl) rfl mixed (Ext.drew W2) rfl ?_
  refine rd ?_
  refine dAd tb (r := ((2 * k : Nat) : Int)) ?_
  refine rd ?_
  refine dIa tb (2 * k) ?_ (hj := fun _ => ⟨rfl, by rw [hgm]; omega⟩)
  refine rd ?_
  refine dAd tb (r := ((2 * k : Nat) : Int)) ?_
  refine rd ?_
  refine dAd tb (r := ((2 * k + 1 : Nat) : Int)) ?_
  refine rd ?_
  refine dIa tb (2 * k + 1) ?_ (hj := fun _ => ⟨rfl, by rw [hgm]; omega⟩)
  refine rd ?_
  refine GM.nil ?_
  have hxd := Ext.drew W2
  have hb := Bld.ext hb hxd
  have hx := hx.trans hxd
  generalize W2.drew = W3 at hb hx ⊢
  refine rn ?_
  first | refine G.condD rfl (fun hc => ?_) (fun hc => ?_) | refine G.condN rfl (fun hc => ?_) (fun hc => ?_) | refine G.cond rfl (fun hc => ?_) (fun hc => ?_)
  · have hc' : 0 ≤ f1 ∧ f1 ≤ f2 ∧ f2 ≤ x.length := by
      simp only [Bool.and_eq_true, decide_eq_true_eq] at hc
      omega
    rw [if_pos hc'] at hgp
    obtain ⟨a1, ha1⟩ := Int.eq_ofNat_of_zero_le hc'.1
    obtain ⟨a2, ha2⟩ := Int.eq_ofNat_of_zero_le (show 0 ≤ f2 by omega)
    subst ha1 ha2
    rw [Int.toNat_natCast, Int.toNat_natCast] at hgp
    rw [hgp] at hL hgl
    refine rn ?_
    refine GL.cons (Step.sliceS tb a1 a2 rfl (Op1.of rfl (by first | exact fun _ => rfl | exact fun h => h | exact fun h => bL h | exact fun h => bL (bL h) | exact fun h => bL (bL (bL h)))) (Op1.of rfl (by first | exact fun _ => rfl | exact fun h => h | exact fun h => bL h | exact fun h => bL (bL h) | exact fun h => bL (bL (bL h)))) (Op1.of rfl (by first | exact fun _ => rfl | exact fun h => h | exact fun h => bL h | exact fun h => bL (bL h) | exact fun h => bL (bL (bL h)))) rfl (fun _ => ⟨rfl, rfl, by omega, by omega⟩) rfl ?_)
    refine rn ?_
    refine sCall c213 (wstr_ok w.heap.size w.heap.size _ ((x.drop a1).take (a2 - a1)) W3 hb (by omega) hx.size) ?_
    rintro _ W4 ⟨hb4, hx4⟩
    refine rn ?_
    exact G.lp (x := (n + 1, i, out)) (n, i + 1 + m, out ++ (x.drop a1).take (a2 - a1)) (by repeat (first | exact Sub.nil _ | refine Sub.cons rfl ?_)) ⟨Below.trans (B := w.heap.size) hx hx4, by simp only; omega, by simp only; omega, hb4, outB (i := i + 1 + m) (by rw [List.length_append]; omega), hL⟩ (by simp only; omega)
  · have hc' : ¬ (0 ≤ f1 ∧ f1 ≤ f2 ∧ f2 ≤ x.length) := by
      rintro ⟨h1, h2, h3⟩
      simp only [Bool.and_eq_false_iff, decide_eq_false_iff_not] at hc
      omega
    rw [if_neg hc'] at hgp
    rw [hgp, List.append_nil] at hL
    refine rn ?_
    exact G.lp (x := (n + 1, i, out)) (n, i + 1 + m, out) (by repeat (first | exact Sub.nil _ | refine Sub.cons rfl ?_)) ⟨hx, by simp only; omega, by simp only; omega, hb, outB (i := i + 1 + m) (Nat.le_trans hol (Nat.mul_le_mul_right _ (by omega))), hL⟩ (by simp only; omega)
end Go.Proofs.YtmkckngecjpklaaGreatDoor
end
section
open Go Go.Vg Go.RowKit Go.Proofs Go.Proofs.YtmkckngecjpklaaGreatDoor
namespace Go.Proofs.YtmkckngecjpklaaGreatDoor
set_option linter.unusedSimpArgs false

theorem tabsL {w : World} (h : Tabs w) : Lab.Tabs w := h
/-- put in plain words -/
def badP (name value : List UInt8) : Bool := !Lab.namedB false name || decide ((1024 : Int) < value.length) || !Lib.validD value || (decide (name = Lab.nameS) && !decide (value = []) && !Lab.namedB true value)
def putR (ls : List Lab.Lab) (name value : List UInt8) : List Lab.Lab :=
  if badP name value = true then ls else if 64 < (Lab.withS ls name value).length then ls else Lab.withS ls name value

def PutS (v : Value) (ls out : List Lab.Lab) (w : World) (r : Value) (w' : World) : Prop := ((r = v ∧ out = ls) ∨ Lab.LO w' w.heap.size r out) ∧ Ext w w'
theorem PutS.labs {v r : Value} {ls out : List Lab.Lab} {w w' : World} (h : PutS v ls out w r w') (hv : Lab.Labs w v ls) : Lab.Labs w' r out := by
  obtain ⟨⟨rfl, rfl⟩ | ho, hx⟩ := h
  · exact hv.to hx
  · exact ho.sli
theorem put_okR (v : Value) (ls : List Lab.Lab) (name value : List UInt8) (w : World) (hv : Lab.Labs w v ls) (hs : Lab.sortedL ls) (hn : ls.length ≤ 1000) (h1 : Lab.Sz name) (h2 : Lab.Sz value) (hT : Tabs w) :
    Ret Tryz.prog 79 ⟨[v, S name, S value]⟩ w fun r w' => PutS v ls (putR ls name value) w r w' := by
  refine ret_of_G Tryz.func79 rfl Tryz.ntmps79 rfl ?_
  simp only [argEnv]
  refine rn ?_
  refine sCall c67 (Lab.rightName_ok name w h1) ?_
  rintro _ w1 ⟨rfl, hx1⟩
  refine rn ?_
  refine sCallx c85 (fun hc => Lab.validS_ok value w1 h2 (tabsL (hT.to hx1))) ?_
  intro w2 hx2
  have hx02 := hx1.trans hx2
  refine rn ?_
  refine sCallx c80 (fun hc => Lab.rightMetric_ok value w2 h2) ?_
  intro w3 hx3
  have hx03 := hx02.trans hx3
  refine rn ?_
  first | refine G.condD rfl (fun hc => ?_) (fun hc => ?_) | refine G.condN rfl (fun hc => ?_) (fun hc => ?_) | refine G.cond rfl (fun hc => ?_) (fun hc => ?_)
  · refine rn ?_
    refine G.ret1 rfl rfl rfl rfl ?_
    have e : putR ls name value = ls := if_pos hc
    rw [e]; exact ⟨.inl ⟨rfl, rfl⟩, hx03⟩
  · have e : putR ls name value = if 64 < (Lab.withS ls name value).length then ls else Lab.withS ls name value := if_neg (by rw [show badP name value = false from hc]; simp)
    rw [e]
    refine rn ?_
    refine sCall c110 (Lab.with_ok v ls name value w3 (hv.to hx03) hs hn) ?_
    rintro r w4 ⟨ho4, hx4⟩
    have hx04 := hx03.trans hx4
    have hsl := ho4.sli
    refine rn ?_
    rw [List.length_map]
    refine rn ?_
    first | refine G.condD rfl (fun hc => ?_) (fun hc => ?_) | refine G.condN rfl (fun hc => ?_) (fun hc => ?_) | refine G.cond rfl (fun hc => ?_) (fun hc => ?_)
    · refine rn ?_
      refine G.ret1 rfl rfl rfl rfl ?_
      rw [if_pos (by omega)]; exact ⟨.inl ⟨rfl, rfl⟩, hx04⟩
    · refine rn ?_
      refine G.ret1 rfl rfl rfl rfl ?_
      rw [if_neg (by omega)]; exact ⟨.inr (ho4.mono hx03.size), hx04⟩
theorem join_okR (s : Value) (sep : List UInt8) (ss : List (List UInt8)) (B : Nat) (w : World) (h : Owns w B s 9 1 (ss.map strC)) (hl : (Lib.join ss sep).length ≤ 140737488355328) :
    Ret Tryz.prog 209 ⟨[s, S sep]⟩ w fun r w' => r = S (Lib.join ss sep) ∧ Ext w w' := by
  have hlen := h.2.2
  rw [List.length_map] at hlen
  have hfl : ∀ (j : Nat) (x : List UInt8), ss[j]? = some x → (ss.map fun s => [S s]).flatten[j]? = some (S x) := by
    intro j x hj
    have := flatten_get (k := 1) (ss.map fun s => [S s]) h.2.1 j [S x] (by simp [hj]) 0 (S x) rfl
    simpa using this
  rcases h.1.2 with ⟨rfl, hn⟩ | ⟨g, cap, cur, rfl, hB, hg, hc, hm, hs, ht⟩
  · have : ss = [] := by simpa using hn
    subst this
    refine Calls.mono (Any.strings_Join_none Tryz.lays156 Tryz.Builder_Extra_156 none 0 ⟨⟨sep⟩⟩ w) ?_
    rintro e w' ⟨he, rfl⟩
    refine ⟨_, he, ?_, Ext.refl _⟩
    rw [Lib.join_nil]; rfl
  · rw [List.length_map] at hc ht ⊢
    have hmap : ((ss.map fun s => (⟨⟨s⟩⟩ : ByteArray)).map (·.data.toList)) = ss := by simp [Function.comp_def]
    have key := Any.strings_Join Tryz.lays156 Tryz.Builder_Extra_156 g 0 cap (ss.map fun s => (⟨⟨s⟩⟩ : ByteArray)) ⟨⟨sep⟩⟩ w ?_ (Array.getElem?_eq_some_iff.1 hg).1 (by simpa using hlen) (by simpa using hc) (by rw [hmap]; exact hl)
    · rw [hmap, List.length_map] at key
      exact Calls.mono key fun e w' ⟨he, hb⟩ => ⟨_, he, rfl, hb⟩
    · intro j x hx
      simp only [List.getElem?_map, Option.map_eq_some_iff] at hx
      obtain ⟨y, hy, rfl⟩ := hx
      have h1 := hfl j y hy
      rw [show (fun s : List UInt8 => [S s]) = strC from rfl, ← ht] at h1
      have h2 : j < ss.length * 1 := by have := (List.getElem?_eq_some_iff.1 hy).1; omega
      rw [List.getElem?_take_of_lt h2] at h1
      rw [Nat.zero_add, cell_of_row w g j cur _ (0, 0) hg]
      have h3 : cur[j]? = some (S y) := by simpa using h1
      exact h3
/-- a rule in memory -/
structure Rule where
  act : Int
  src : List (List UInt8)
  sep : List UInt8
  re : List UInt8
  mod : Int
  tgt : List UInt8
  repl : List UInt8
def relC (r : Rule) (sv : Value) : List Value := [.int .i64 r.act, sv, S r.sep, S r.re, .int .i64 r.mod, S r.tgt, S r.repl]
abbrev Srcs (w : World) (r : Rule) (sv : Value) : Prop := Sli w sv 1 (r.src.map strC)
def wordsR (ls : List Lab.Lab) (r : Rule) : List (List UInt8) := r.src.map (Lab.getL ls)
def textR (ls : List Lab.Lab) (r : Rule) : List UInt8 := Lib.join (wordsR ls r) r.sep
theorem str1 (l : List (List UInt8)) : ∀ y ∈ l.map strC, ∀ c ∈ y, c.oneCell' = true := by
  intro y hy c hc
  simp only [List.mem_map] at hy
  obtain ⟨z, _, rfl⟩ := hy
  simp only [strC, List.mem_cons, List.not_mem_nil, or_false] at hc
  subst hc; rfl
theorem text_okR (v sv : Value) (ls : List Lab.Lab) (r : Rule) (w : World) (hv : Lab.Labs w v ls) (hu : Srcs w r sv) (hn : r.src.length ≤ 1000) (hl : (textR ls r).length ≤ 140737488355328) :
    Ret Tryz.prog 134 ⟨[v, .agg ⟨relC r sv⟩]⟩ w fun x w' => x = S (textR ls r) ∧ Ext w w' := by
  refine ret_of_G Tryz.func134 rfl Tryz.ntmps134 rfl ?_
  simp only [argEnv]
  refine rn ?_
  refine sBox (fun W1 hb1 hs1 hx1 => ?_)
  have hu1 := hu.to hx1
  refine rn ?_
  rw [List.length_map]
  refine (G.loop (fun x : Nat × Value => [(0, none, v), (3, none, ptr w.heap.size), (5, none, x.2), (9, none, sv), (10, none, .int .i64 r.src.length), (11, none, .int .i64 x.1)])
    (fun x W => Ext W1 W ∧ x.1 ≤ r.src.length ∧ Owns W W1.heap.size x.2 9 1 (((r.src.take x.1).map (Lab.getL ls)).map strC)) (fun x => r.src.length - x.1) (0, nilV) (by repeat (first | exact Sub.nil _ | refine Sub.cons rfl ?_)) ⟨Ext.refl _, Nat.zero_le _, Owns.nil _ _ _ _⟩ ?_)
  rintro ⟨k, s⟩ W ⟨hx, hk, ho⟩
  simp only at hk ho ⊢
  have huW := hu1.to hx
  have hbW := hb1.to hx
  refine rn ?_
  first | refine G.condD rfl (fun hc => ?_) (fun hc => ?_) | refine G.condN rfl (fun hc => ?_) (fun hc => ?_) | refine G.cond rfl (fun hc => ?_) (fun hc => ?_)
  · have hlt : k < r.src.length := by omega
    have hget : (r.src.map strC)[k]? = some (strC r.src[k]) := by simp [hlt]
    have htk : r.src.take (k + 1) = r.src.take k ++ [r.src[k]] := by rw [List.take_succ_eq_append_getElem hlt]
    have hln : ((r.src.take k).map (Lab.getL ls)).length ≤ 1000 := by rw [List.length_map, List.length_take]; omega
    try (first | refine gl tb ?_ | refine gg tb ?_ | refine ll tb ?_ | refine lg tb ?_); repeat ((first | refine G.condT rfl ?_ | refine G.condF rfl ?_ | refine sFa tb ?_ | refine sLd tb ?_ | refine sLa tb ?_ | refine sLen tb ?_ | refine sFd tb ?_ | refine sBd tb ?_ | refine sIa tb k ?_); try (first | refine gl tb ?_ | refine gg tb ?_ | refine ll tb ?_ | refine lg tb ?_))
    refine sCall c78 (Lab.get_ok v ls r.src[k] W (hv.to (hx1.trans hx))) ?_
    rintro _ W2 ⟨rfl, hx2⟩
    refine rn ?_
    refine sBs' tb [strC (Lab.getL ls r.src[k])] ?_ (hkl := by simp [strC])
    intro v3 W3 ho3 hs3 hx3
    have hx03 := (hx.trans hx2).trans hx3
    refine sApp tb (ho.to (hx2.trans hx3)) ho3.sli ?_ (h1 := str1 [Lab.getL ls r.src[k]]) (hB := hx03.size)
    intro v4 W4 ho4 hg4
    refine rn ?_
    refine sAd tb ?_
    refine rn ?_
    refine G.lp (x := (k, s)) (k + 1, v4) (by repeat (first | exact Sub.nil _ | refine Sub.cons rfl ?_)) ⟨hg4.below _ hx03, by simp only; omega, ?_⟩ (by simp only; omega)
    simp only [htk]
    rw [List.map_append, List.map_append]; exact ho4
  · obtain rfl : k = r.src.length := by omega
    rw [List.take_length] at ho
    refine rn ?_
    refine sCall c209 (join_okR s r.sep (wordsR ls r) _ W ho hl) ?_
    rintro _ W2 ⟨rfl, hx2⟩
    refine rn ?_
    refine G.ret1 rfl rfl rfl rfl ?_
    exact ⟨rfl, (hx1.trans hx).trans hx2⟩
end Go.Proofs.YtmkckngecjpklaaGreatDoor
end
section
open Go Go.Vg Go.RowKit Go.Proofs Go.Proofs.YtmkckngecjpklaaGreatDoor
namespace Go.Proofs.YtmkckngecjpklaaGreatDoor
set_option linter.unusedSimpArgs false

def rightR (r : Rule) : Bool :=
  if (decide (r.act < 1) || decide (9 < r.act)) = true then false
  else match Rx.comp r.re with
    | .error _ => false
    | .ok _ => if r.src.all (Lab.namedB false) = true then
        (if r.act = 4 then decide (1 ≤ r.mod) && Lab.namedB false r.tgt else if (decide (r.act = 8) || decide (r.act = 9)) = true then Lab.namedB false r.tgt else if r.act = 1 then !decide (r.tgt = []) else true) else false
structure RuleSz (r : Rule) : Prop where
  src : r.src.length ≤ 1000
  srcs : ∀ s ∈ r.src, Lab.Sz s
  re : r.re.length ≤ 1000
  tgt : r.tgt.length ≤ 2000
  repl : r.repl.length ≤ 2000
  sep : r.sep.length ≤ 1000

theorem right_okR (sv : Value) (r : Rule) (w : World) (hu : Srcs w r sv) (hz : RuleSz r) (hT : Tabs w) :
    Ret Tryz.prog 29 ⟨[.agg ⟨relC r sv⟩]⟩ w fun x w' => x = .bool (rightR r) ∧ Ext w w' := by
  refine ret_of_G Tryz.func29 rfl Tryz.ntmps29 rfl ?_
  simp only [argEnv]
  refine rn ?_
  refine sBox (fun W1 hb1 hs1 hx1 => ?_)
  have hu1 := hu.to hx1
  have hsrc := hz.src
  refine rn ?_
  first | refine G.condD rfl (fun hc => ?_) (fun hc => ?_) | refine G.condN rfl (fun hc => ?_) (fun hc => ?_) | refine G.cond rfl (fun hc => ?_) (fun hc => ?_)
  · refine rn ?_
    refine G.ret1 rfl rfl rfl rfl ?_
    exact ⟨by rw [rightR, if_pos hc], hx1⟩
  have hc0 := hc
  clear hc
  refine rn ?_
  refine sCall c66 (comp_ok W1 r.re (hT.to hx1) (by have := hz.re; omega)) ?_
  rintro _ W2 ⟨hx2, ⟨t, g, pb, hcm, hE, rfl⟩ | ⟨e, f, hcm, rfl⟩⟩
  rotate_left
  · obtain ⟨n, hn, h0⟩ : ∃ n : Int, (if f = 1 then (8 : Int) else 9) = n ∧ n ≠ 0 := ⟨_, rfl, by split <;> omega⟩
    rw [hn]
    refine rn ?_
    first | refine G.condD rfl (fun hc => ?_) (fun hc => ?_) | refine G.condN rfl (fun hc => ?_) (fun hc => ?_) | refine G.cond rfl (fun hc => ?_) (fun hc => ?_)
    · refine rn ?_
      refine G.ret1 rfl rfl rfl rfl ?_
      exact ⟨by rw [rightR, if_neg (by rw [hc0]; simp), hcm], hx1.trans hx2⟩
    · exact absurd hc h0
  refine rn ?_
  have hx02 := hx1.trans hx2
  have hu2 := hu.to hx02
  have hb2 := hb1.to hx2
  refine rn ?_
  rw [List.length_map]
  refine rn ?_
  refine (G.loop (fun k : Nat => [(0, none, .agg ⟨relC r sv⟩), (1, none, ptr w.heap.size), (26, none, sv), (27, none, .int .i64 r.src.length), (28, none, .int .i64 k)])
    (fun k W => Ext W2 W ∧ k ≤ r.src.length ∧ (r.src.take k).all (Lab.namedB false) = true) (fun k => r.src.length - k) 0 (by repeat (first | exact Sub.nil _ | refine Sub.cons rfl ?_)) ⟨Ext.refl _, Nat.zero_le _, rfl⟩ ?_)
  rintro k W ⟨hx, hk, hall⟩
  have huW := hu2.to hx
  have hbW := hb2.to hx
  refine rn ?_
  first | refine G.condD rfl (fun hc => ?_) (fun hc => ?_) | refine G.condN rfl (fun hc => ?_) (fun hc => ?_) | refine G.cond rfl (fun hc => ?_) (fun hc => ?_)
  · have hlt : k < r.src.length := by omega
    have hget : (r.src.map strC)[k]? = some (strC r.src[k]) := by simp [hlt]
    have htk : r.src.take (k + 1) = r.src.take k ++ [r.src[k]] := by rw [List.take_succ_eq_append_getElem hlt]
    try (first | refine gl tb ?_ | refine gg tb ?_ | refine ll tb ?_ | refine lg tb ?_); repeat ((first | refine G.condT rfl ?_ | refine G.condF rfl ?_ | refine sFa tb ?_ | refine sLd tb ?_ | refine sLa tb ?_ | refine sLen tb ?_ | refine sFd tb ?_ | refine sBd tb ?_ | refine sIa tb k ?_); try (first | refine gl tb ?_ | refine gg tb ?_ | refine ll tb ?_ | refine lg tb ?_))
    refine sCall c67 (Lab.rightName_ok r.src[k] W (hz.srcs _ (List.getElem_mem hlt))) ?_
    rintro _ W3 ⟨rfl, hx3⟩
    refine rn ?_
    first | refine G.condD rfl (fun hc => ?_) (fun hc => ?_) | refine G.condN rfl (fun hc => ?_) (fun hc => ?_) | refine G.cond rfl (fun hc => ?_) (fun hc => ?_)
    · refine rn ?_
      refine G.ret1 rfl rfl rfl rfl ?_
      refine ⟨?_, (hx02.trans hx).trans hx3⟩
      rw [rightR, if_neg (by rw [hc0]; simp), hcm]
      simp only
      rw [if_neg]
      intro h
      rw [List.all_eq_true] at h
      rw [h _ (List.getElem_mem hlt)] at hc
      cases hc
    · refine rn ?_
      refine sAd tb ?_
      refine rn ?_
      refine G.lp (k + 1) (by repeat (first | exact Sub.nil _ | refine Sub.cons rfl ?_)) ⟨hx.trans hx3, by omega, ?_⟩ (by omega)
      rw [htk, List.all_append, hall]
      simpa using hc
  · obtain rfl : k = r.src.length := by omega
    rw [List.take_length] at hall
    have hxa := hx02.trans hx
    have e0 : rightR r = (if r.act = 4 then decide (1 ≤ r.mod) && Lab.namedB false r.tgt else if (decide (r.act = 8) || decide (r.act = 9)) = true then Lab.namedB false r.tgt else if r.act = 1 then !decide (r.tgt = []) else true) := by
      rw [rightR, if_neg (by rw [hc0]; simp), hcm]
      simp only
      rw [if_pos hall]
    have htz : Lab.Sz r.tgt := by have := hz.tgt; show _ ≤ 9223372036854775807; omega
    rw [e0]
    refine rn ?_
    first | refine G.condD rfl (fun hc => ?_) (fun hc => ?_) | refine G.condN rfl (fun hc => ?_) (fun hc => ?_) | refine G.cond rfl (fun hc => ?_) (fun hc => ?_)
    · rw [if_pos hc]
      refine rn ?_
      refine sCallx c67 (fun hc => Lab.rightName_ok r.tgt W htz) ?_
      intro W3 hx3
      refine rn ?_
      refine G.ret1 rfl rfl rfl rfl ?_
      exact ⟨rfl, hxa.trans hx3⟩
    · rw [if_neg hc]
      refine rn ?_
      first | refine G.condD rfl (fun hc => ?_) (fun hc => ?_) | refine G.condN rfl (fun hc => ?_) (fun hc => ?_) | refine G.cond rfl (fun hc => ?_) (fun hc => ?_)
      · refine rn ?_
        first | refine G.condD rfl (fun hc => ?_) (fun hc => ?_) | refine G.condN rfl (fun hc => ?_) (fun hc => ?_) | refine G.cond rfl (fun hc => ?_) (fun hc => ?_)
        · rw [if_pos (by simp [hc])]
          refine rn ?_
          refine sCall c67 (Lab.rightName_ok r.tgt W htz) ?_
          rintro _ W3 ⟨rfl, hx3⟩
          refine rn ?_
          refine G.ret1 rfl rfl rfl rfl ?_
          exact ⟨rfl, hxa.trans hx3⟩
        · exact absurd (by assumption) hc
      · have h8 := hc
        refine rn ?_
        first | refine G.condD rfl (fun hc => ?_) (fun hc => ?_) | refine G.condN rfl (fun hc => ?_) (fun hc => ?_) | refine G.cond rfl (fun hc => ?_) (fun hc => ?_)
        · rw [if_pos (by simp [hc])]
          refine rn ?_
          refine sCall c67 (Lab.rightName_ok r.tgt W htz) ?_
          rintro _ W3 ⟨rfl, hx3⟩
          refine rn ?_
          refine G.ret1 rfl rfl rfl rfl ?_
          exact ⟨rfl, hxa.trans hx3⟩
        · rw [if_neg (by simp [h8, hc])]
          refine rn ?_
          first | refine G.condD rfl (fun hc => ?_) (fun hc => ?_) | refine G.condN rfl (fun hc => ?_) (fun hc => ?_) | refine G.cond rfl (fun hc => ?_) (fun hc => ?_)
          · rw [if_pos hc]
            refine rn ?_
            refine G.ret1 rfl rfl rfl rfl ?_
            exact ⟨rfl, hxa⟩
          · rw [if_neg hc]
            refine rn ?_
            refine G.ret1 rfl rfl rfl rfl ?_
            exact ⟨rfl, hxa⟩
end Go.Proofs.YtmkckngecjpklaaGreatDoor
end
section
open Go Go.Vg Go.RowKit Go.Proofs Go.Proofs.YtmkckngecjpklaaGreatDoor
namespace Go.Proofs.YtmkckngecjpklaaGreatDoor
set_option linter.unusedSimpArgs false

theorem expL_len (t x : List UInt8) (g : List Int) : ∀ (n i : Nat) (out : List UInt8), (Rx.expL t x g n i out).length ≤ out.length + n * (x.length + 1)
  | 0, _, out => by simp [Rx.expL]
  | n + 1, i, out => by
    have h1 := expL_len t x g n (i + 1) (out ++ [t.getD i 0])
    have h2 := expL_len t x g n (i + 2) (out ++ [36])
    have h3 := expL_len t x g n (i + 1) (out ++ [36])
    have h4 := expL_len t x g n (i + 1 + (Rx.namedP (t.drop (i + 1))).2) (out ++ Rx.grpP x g (Rx.namedP (t.drop (i + 1))).1)
    have h5 := Rx.grpP_len x g (Rx.namedP (t.drop (i + 1))).1
    simp only [List.length_append, List.length_cons, List.length_nil] at h1 h2 h3 h4
    rw [Nat.succ_mul]
    rw [Rx.expL]
    split
    · split
      · omega
      · split
        · omega
        · split <;> omega
    · omega
theorem expand_len {t x : List UInt8} {g : List Int} (h1 : t.length ≤ 2000) (h2 : x.length ≤ 100000) : (Rx.expandP t x g).length ≤ 2001 * 100001 := by
  have := expL_len t x g (t.length + 1) 0 []
  have h3 : (t.length + 1) * (x.length + 1) ≤ 2001 * 100001 := Nat.mul_le_mul (by omega) (by omega)
  unfold Rx.expandP
  simp only [List.length_nil] at this
  omega
def ruleR (ls : List Lab.Lab) (r : Rule) (t : Rx.T) (g : Nat) : List Lab.Lab × Bool :=
  if r.act = 1 then match Rx.groupsP (Rx.progT t) g (textR ls r) with
    | none => (ls, true)
    | some gs => (putR ls (Rx.expandP r.tgt (textR ls r) gs) (Rx.expandP r.repl (textR ls r) gs), true)
  else if r.act = 2 then (ls, Rx.mt t g (textR ls r))
  else (ls, !Rx.mt t g (textR ls r))

/-- what a rule leaves: what it was given, or a row of its own -/
def Upd (w : World) (v : Value) (ls : List Lab.Lab) (w' : World) (u : Value) (out : List Lab.Lab) : Prop := (u = v ∧ out = ls) ∨ Lab.LO w' w.heap.size u out
theorem Upd.lo {w w' : World} {B : Nat} {v u : Value} {ls out : List Lab.Lab} (h : Upd w v ls w' u out) (hv : Lab.LO w B v ls) (hB : B ≤ w.heap.size) (hx : Ext w w') : Lab.LO w' B u out := by
  rcases h with ⟨rfl, rfl⟩ | h
  · exact hv.to hx
  · exact Owns.mono h hB
theorem rule_okR (v sv : Value) (ls : List Lab.Lab) (r : Rule) (t : Rx.T) (g : Nat) (w : World) (hv : Lab.Labs w v ls) (hso : Lab.sortedL ls) (hn : ls.length ≤ 1000) (hu : Srcs w r sv) (hz : RuleSz r)
    (hcm : Rx.comp r.re = .ok (t, g)) (ha : r.act = 1 ∨ r.act = 2 ∨ r.act = 3) (hl : (textR ls r).length ≤ 100000) (hT : Tabs w) :
    Ret Tryz.prog 71 ⟨[v, .agg ⟨relC r sv⟩]⟩ w fun x w' => ∃ u, x = .tuple ⟨[u, .bool (ruleR ls r t g).2]⟩ ∧ Upd w v ls w' u (ruleR ls r t g).1 ∧ Ext w w' := by
  refine ret_of_G Tryz.func71 rfl Tryz.ntmps71 rfl ?_
  simp only [argEnv]
  refine rn ?_
  refine sBox (fun W1 hb1 hs1 hx1 => ?_)
  refine rn ?_
  refine sBox (fun W2 hb2 hs2 hx2 => ?_)
  have hx02 := hx1.trans hx2
  have hv2 := hv.to hx02
  have hu2 := hu.to hx02
  have hb12 := hb1.to hx2
  refine rn ?_
  refine sCall c66 (comp_ok W2 r.re (hT.to hx02) (by have := hz.re; omega)) ?_
  rintro _ W3 ⟨hx3, ⟨t', g', pb, hcm', hE, rfl⟩ | ⟨e, f, hcm', rfl⟩⟩
  rotate_left
  · rw [hcm] at hcm'; cases hcm'
  rw [hcm] at hcm'
  simp only [Except.ok.injEq, Prod.mk.injEq] at hcm'
  obtain ⟨rfl, rfl⟩ := hcm'
  have hx03 := hx02.trans hx3
  refine rn ?_
  refine sAl tb ?_
  intro W4 hb4 hs4 hx4
  refine sSt tb ?_ (vs := [ptr pb]) (hv := rfl) (hb := hb4) (h1 := by simp [Value.oneCell', ptr])
  intro W5 hb5 hw5
  have hx35 : Ext W3 W5 := Below.wr hx4 hw5 (Nat.le_refl _)
  have hx05 := hx03.trans hx35
  have hb15 := hb12.to (hx3.trans hx35)
  have hb25 := hb2.to (hx3.trans hx35)
  have hv5 := hv.to hx05
  have hu5 := hu.to hx05
  have hE5 := hE.to hx35
  refine rn ?_
  refine sCall c134 (text_okR v sv ls r W5 hv5 hu5 hz.src (by omega)) ?_
  rintro _ W6 ⟨rfl, hx6⟩
  have hx06 := hx05.trans hx6
  have hb16 := hb15.to hx6
  have hb26 := hb25.to hx6
  have hb56 := hb5.to hx6
  have hE6 := hE5.to hx6
  have hv6 := hv5.to hx6
  have hT6 := hT.to hx06
  generalize hs : textR ls r = s at hl ⊢
  have hlt5 : W2.heap.size ≤ W3.heap.size := hx3.size
  refine rn ?_
  first | refine G.condD rfl (fun hc => ?_) (fun hc => ?_) | refine G.condN rfl (fun hc => ?_) (fun hc => ?_) | refine G.cond rfl (fun hc => ?_) (fun hc => ?_)
  · have e : ruleR ls r t g = match Rx.groupsP (Rx.progT t) g s with
      | none => (ls, true)
      | some gs => (putR ls (Rx.expandP r.tgt s gs) (Rx.expandP r.repl s gs), true) := by rw [ruleR, if_pos hc, hs]
    refine rn ?_
    refine sCall c135 (groups_ok W6 pb t g s hT6 hE6 hl) ?_
    rintro _ W7 ⟨hx7, ⟨hr, rfl⟩ | ⟨l, gv, hr, ho, rfl⟩⟩
    · rw [hr] at e
      have hb17 := hb16.to hx7
      refine rn ?_
      refine G.ret2 rfl rfl rfl rfl rfl ?_
      rw [e]; exact ⟨_, rfl, .inl ⟨rfl, rfl⟩, hx06.trans hx7⟩
    · rw [hr] at e
      simp only at e
      have hb17 := hb16.to hx7
      have hb27 := hb26.to hx7
      refine rn ?_
      have hgl : l.length ≤ 100000 := by
        unfold Rx.groupsP at hr
        rw [Option.map_eq_some_iff] at hr
        obtain ⟨l0, h0, rfl⟩ := hr
        have := Rx.runP_len (Rx.wf_prog hE6.num) h0
        rw [Rx.noEnd_len]; have := hE6.g; omega
      have hb17d := hb17.to (Ext.drew W7)
      have hb27d := hb27.to (Ext.drew W7)
      have hgo := ho.sli.to (Ext.drew W7)
      have hv7d := hv6.to (hx7.trans (Ext.drew W7))
      have hT7d := hT6.to (hx7.trans (Ext.drew W7))
      have hx07d := hx06.trans (hx7.trans (Ext.drew W7))
      have hel1 := expand_len (t := r.tgt) (x := s) (g := l) hz.tgt hl
      have hel2 := expand_len (t := r.repl) (x := s) (g := l) hz.repl hl
      have hzW : w.heap.size + 2 ≤ W7.drew.heap.size := by
        have h1 := (Ext.drew W7).size
        have h2 := hx7.size
        have h3 := hx6.size
        have h4 := hx35.size
        omega
      refine G.regionG (fun w' => Bx w' W1.heap.size (relC r sv)) mixed hb27d ?_
      generalize W7.drew = W at hzW hb17d hb27d hgo hv7d hT7d hx07d ⊢
      have hexp1 : ∀ W', Ext W W' → _ := fun W' hx' => expand_ok r.tgt s l gv W' hz.tgt hl hgl (hgo.to hx')
      have hexp2 : ∀ W', Ext W W' → _ := fun W' hx' => expand_ok r.repl s l gv W' hz.repl hl hgl (hgo.to hx')
      generalize hex1 : Rx.expandP r.tgt s l = e1 at e hel1 hexp1
      generalize hex2 : Rx.expandP r.repl s l = e2 at e hel2 hexp2
      refine GD.join [0, 1, 2, 3, 4, 5, 6, 7, 8, 9, 10] (fun _ : Unit => [(2, none, ptr w.heap.size), (3, none, ptr W1.heap.size), (40, none, v), (45, none, S e1), (50, none, S e2)]) (fun _ w' => Ext W w') ?_ fun meet => ?_
      · rintro _ Wa hxa
        have hxa : Ext W Wa := hxa
        refine GD.steps ([(11, false), (12, false)]) (by kernel_rfl) (by kernel_rfl) rfl ?_
        refine GM.eff (Step.callF rfl rfl rfl c79 rfl (put_okR v ls e1 e2 Wa (hv7d.to hxa) hso hn (by show _ ≤ _; omega) (by show _ ≤ _; omega) (hT7d.to hxa)) ?_)
        rintro pv Wb hps
        have hp := hps.labs (hv7d.to hxa)
        have hxb := hps.2
        have hxab := hxa.trans hxb
        refine ⟨hb27d.to hxab, ?_⟩
        have hbs := hb17d.to hxab
        refine GM.eff (Step.store0 tb rfl (Op1.of rfl (by first | exact fun _ => rfl | exact fun h => h | exact fun h => bL h | exact fun h => bL (bL h) | exact fun h => bL (bL (bL h)))) (Op1.of rfl (by first | exact fun _ => rfl | exact fun h => h | exact fun h => bL h | exact fun h => bL (bL h) | exact fun h => bL (bL (bL h)))) rfl (hp.cells) rfl (by simp [hp.one]) hbs rfl ?_)
        intro Wc hbc hwc
        have hx0b := hx07d.trans hxab
        have hx0c : Ext w Wc := Below.wr hx0b hwc (Nat.le_refl _)
        refine ⟨(hb27d.to hxab).wr hwc (by omega), ?_⟩
        refine GM.nil ?_
        refine GD.done (by kernel_rfl) ?_
        refine rn ?_
        refine G.ret2 rfl rfl rfl rfl rfl ?_
        rw [e]
        refine ⟨_, rfl, ?_, hx0c⟩
        rcases hps.1 with ⟨rfl, h0⟩ | ho
        · exact .inl ⟨rfl, h0⟩
        · exact .inr (Owns.mono (Owns.wr ho hwc (by have := hxa.size; omega)) (by have := hxa.size; omega))
      · refine GD.steps ([(1, true), (2, true), (3, true), (4, true), (6, true), (7, true), (8, true), (9, true)]) (by kernel_rfl) (by kernel_rfl) rfl ?_
        refine rd ?_
        refine dLd tb (u := S r.tgt) ?_ (hc := fun w' hS _ => Bx.ci hS (by exact rfl))
        refine rd ?_
        refine dLd tb (u := S r.repl) ?_ (hc := fun w' hS _ => Bx.ci hS (by exact rfl))
        refine rd ?_
        refine GM.nil ?_
        refine GD.two (0) (5) (by kernel_rfl) (by kernel_rfl) rfl rfl ?_ ?_
        · refine (Step.load1 tb rfl (Op1.of rfl (by first | exact fun _ => rfl | exact fun h => h | exact fun h => bL h | exact fun h => bL (bL h) | exact fun h => bL (bL (bL h)))) rfl rfl (fun _ => hb17d.cells.one) rfl ?_)
          refine ⟨hb27d, ?_⟩
          refine GD.steps ([(5, false), (10, false)]) (by kernel_rfl) (by kernel_rfl) rfl ?_
          refine GM.eff (Step.callF rfl rfl rfl c136 rfl (hexp1 W (Ext.refl _)) ?_)
          rintro _ Wa ⟨rfl, hxa⟩
          refine ⟨hb27d.to hxa, ?_⟩
          refine GM.eff (Step.callF rfl rfl rfl c136 rfl (hexp2 Wa hxa) ?_)
          rintro _ Wb ⟨rfl, hxb⟩
          refine ⟨hb27d.to (hxa.trans hxb), ?_⟩
          refine GM.nil ?_
          exact meet () _ _ _ rfl rfl (by repeat (first | exact Sub.nil _ | refine Sub.cons rfl ?_)) (hxa.trans hxb)
        · refine (Step.callF rfl rfl rfl c136 rfl (hexp1 W (Ext.refl _)) ?_)
          rintro _ Wa ⟨rfl, hxa⟩
          refine ⟨hb27d.to hxa, ?_⟩
          refine GD.two (0) (10) (by kernel_rfl) (by kernel_rfl) rfl rfl ?_ ?_
          · refine (Step.load1 tb rfl (Op1.of rfl (by first | exact fun _ => rfl | exact fun h => h | exact fun h => bL h | exact fun h => bL (bL h) | exact fun h => bL (bL (bL h)))) rfl rfl (fun _ => (hb17d.to hxa).cells.one) rfl ?_)
            refine ⟨hb27d.to hxa, ?_⟩
            refine GD.steps ([(10, false)]) (by kernel_rfl) (by kernel_rfl) rfl ?_
            refine GM.eff (Step.callF rfl rfl rfl c136 rfl (hexp2 Wa hxa) ?_)
            rintro _ Wb ⟨rfl, hxb⟩
            refine ⟨hb27d.to (hxa.trans hxb), ?_⟩
            refine GM.nil ?_
            exact meet () _ _ _ rfl rfl (by repeat (first | exact Sub.nil _ | refine Sub.cons rfl ?_)) (hxa.trans hxb)
          · refine (Step.callF rfl rfl rfl c136 rfl (hexp2 Wa hxa) ?_)
            rintro _ Wb ⟨rfl, hxb⟩
            have hxab := hxa.trans hxb
            refine ⟨hb27d.to hxab, ?_⟩
            refine GD.steps ([(0, false)]) (by kernel_rfl) (by kernel_rfl) rfl ?_
            refine GM.eff ?_
            refine (Step.load1 tb rfl (Op1.of rfl (by first | exact fun _ => rfl | exact fun h => h | exact fun h => bL h | exact fun h => bL (bL h) | exact fun h => bL (bL (bL h)))) rfl rfl (fun _ => (hb17d.to hxab).cells.one) rfl ?_)
            refine ⟨hb27d.to hxab, ?_⟩
            refine GM.nil ?_
            exact meet () _ _ _ rfl rfl (by repeat (first | exact Sub.nil _ | refine Sub.cons rfl ?_)) hxab
  · have hc1 := hc
    refine rn ?_
    first | refine G.condD rfl (fun hc => ?_) (fun hc => ?_) | refine G.condN rfl (fun hc => ?_) (fun hc => ?_) | refine G.cond rfl (fun hc => ?_) (fun hc => ?_)
    · have e : ruleR ls r t g = (ls, Rx.mt t g s) := by rw [ruleR, if_neg hc1, if_pos hc, hs]
      refine rn ?_
      refine G.regionM [(0, true), (1, true), (2, true), (3, false), (4, true), (5, true)] (fun w' => Bx w' w.heap.size [v] ∧ Bx w' W3.heap.size [ptr pb]) (by kernel_rfl) (by kernel_rfl) rfl mixed (⟨hb16.to (Ext.drew W6), hb56.to (Ext.drew W6)⟩) rfl ?_
      refine dLd tb (u := v) ?_ (hc := fun w' hS _ => Bx.c0 hS.1 rfl)
      refine dLd tb (u := ptr pb) ?_ (hc := fun w' hS _ => Bx.c0 hS.2 rfl)
      refine rd ?_
      refine GM.eff (Step.callF rfl rfl rfl c137 rfl (match_ok W6.drew pb t g s (hT6.to (Ext.drew W6)) (hE6.to (Ext.drew W6)) hl) ?_)
      rintro _ W7 ⟨rfl, hx7⟩
      have hx67 := (Ext.drew W6).trans hx7
      refine ⟨⟨hb16.to hx67, hb56.to hx67⟩, ?_⟩
      refine rd ?_
      refine GM.nil ?_
      refine rn ?_
      refine G.ret2 rfl rfl rfl rfl rfl ?_
      rw [e]; exact ⟨_, rfl, .inl ⟨rfl, rfl⟩, hx06.trans hx67⟩
    · have hc2 := hc
      have h3 : r.act = 3 := by omega
      have e : ruleR ls r t g = (ls, !Rx.mt t g s) := by rw [ruleR, if_neg hc1, if_neg hc2, hs]
      refine rn ?_
      first | refine G.condD rfl (fun hc => ?_) (fun hc => ?_) | refine G.condN rfl (fun hc => ?_) (fun hc => ?_) | refine G.cond rfl (fun hc => ?_) (fun hc => ?_)
      rotate_left
      · exact absurd h3 hc
      refine rn ?_
      refine G.regionM [(0, true), (1, true), (2, true), (3, false), (4, true), (5, true), (6, true)] (fun w' => Bx w' w.heap.size [v] ∧ Bx w' W3.heap.size [ptr pb]) (by kernel_rfl) (by kernel_rfl) rfl mixed (⟨hb16.to (Ext.drew W6), hb56.to (Ext.drew W6)⟩) rfl ?_
      refine dLd tb (u := v) ?_ (hc := fun w' hS _ => Bx.c0 hS.1 rfl)
      refine dLd tb (u := ptr pb) ?_ (hc := fun w' hS _ => Bx.c0 hS.2 rfl)
      refine rd ?_
      refine GM.eff (Step.callF rfl rfl rfl c137 rfl (match_ok W6.drew pb t g s (hT6.to (Ext.drew W6)) (hE6.to (Ext.drew W6)) hl) ?_)
      rintro _ W7 ⟨rfl, hx7⟩
      have hx67 := (Ext.drew W6).trans hx7
      refine ⟨⟨hb16.to hx67, hb56.to hx67⟩, ?_⟩
      refine rd ?_
      refine GM.nil ?_
      refine rn ?_
      refine G.ret2 rfl rfl rfl rfl rfl ?_
      rw [e]; exact ⟨_, rfl, .inl ⟨rfl, rfl⟩, hx06.trans hx67⟩
end Go.Proofs.YtmkckngecjpklaaGreatDoor
end
section
open Go Go.Vg Go.RowKit Go.Proofs Go.Proofs.YtmkckngecjpklaaGreatDoor
namespace Go.Proofs.YtmkckngecjpklaaGreatDoor
set_option linter.unusedSimpArgs false

def relF (F : Rule → List Lab.Lab → List Lab.Lab × Bool) : List Rule → List Lab.Lab → List Lab.Lab × Bool
  | [], ls => (ls, true)
  | r :: rs, ls => if rightR r = true then (if (F r ls).2 = true then relF F rs (F r ls).1 else ([], false)) else relF F rs ls
abbrev relC2 (p : Rule × Value) : List Value := relC p.1 p.2
/-- what a rule's walk must show -/
def RuleOk (F : Rule → List Lab.Lab → List Lab.Lab × Bool) (Inv : List Lab.Lab → Prop) (w : World) (p : Rule × Value) : Prop :=
  ∀ W v cur, rightR p.1 = true → Ext w W → Inv cur → Lab.Labs W v cur →
    Ret Tryz.prog 71 ⟨[v, .agg ⟨relC p.1 p.2⟩]⟩ W (fun x w' => ∃ u, x = .tuple ⟨[u, .bool (F p.1 cur).2]⟩ ∧ Upd W v cur w' u (F p.1 cur).1 ∧ Ext W w') ∧ ((F p.1 cur).2 = true → Inv (F p.1 cur).1)
theorem relC_one {r : Rule} {sv : Value} {w : World} (h : Srcs w r sv) : ∀ c ∈ relC r sv, c.oneCell' = true := by
  obtain ⟨a, cap, rfl, _⟩ := h.len
  simp [relC, Value.oneCell', S]
theorem relabel_ok (F : Rule → List Lab.Lab → List Lab.Lab × Bool) (Inv : List Lab.Lab → Prop) (v us : Value) (ls : List Lab.Lab) (rs : List (Rule × Value)) (w : World) (hv : Lab.Labs w v ls) (hi : Inv ls) (hn : ls.length ≤ 1000)
    (hu : Sli w us 7 (rs.map relC2)) (hsr : ∀ p ∈ rs, Srcs w p.1 p.2 ∧ RuleSz p.1 ∧ RuleOk F Inv w p) (hT : Tabs w) :
    Ret Tryz.prog 32 ⟨[v, us]⟩ w fun x w' => ∃ u, x = .tuple ⟨[u, .bool (relF F (rs.map (·.1)) ls).2]⟩ ∧ Lab.LO w' w.heap.size u (relF F (rs.map (·.1)) ls).1 ∧ Ext w w' := by
  have hbd := hu.bound
  rw [List.length_map] at hbd
  refine ret_of_G Tryz.func32 rfl Tryz.ntmps32 rfl ?_
  simp only [argEnv]
  refine rn ?_
  refine G.scope rfl rfl ?_
  refine rn ?_
  refine sApp tb (Owns.nil w w.heap.size 78 2) hv ?_ (h1 := Lab.lab1 ls) (hB := Nat.le_refl _)
  intro v1 W1 ho1 hg1
  have hx1 : Ext w W1 := hg1.below _ (Ext.refl _)
  rw [List.nil_append] at ho1
  have hv1 : Lab.LO W1 w.heap.size v1 ls := ho1
  have hu1 := hu.to hx1
  refine rn ?_
  refine G.label ?_
  refine rn ?_
  rw [List.length_map]
  refine rn ?_
  refine (G.loop (fun x : Nat × Value × List Lab.Lab => [(0, none, x.2.1), (1, none, us), (6, none, .bool true), (11, none, us), (12, none, .int .i64 rs.length), (13, none, .int .i64 x.1)])
    (fun x W => Ext w W ∧ x.1 ≤ rs.length ∧ Lab.LO W w.heap.size x.2.1 x.2.2 ∧ Inv x.2.2 ∧ relF F (rs.map (·.1)) ls = relF F ((rs.drop x.1).map (·.1)) x.2.2) (fun x => rs.length - x.1) (0, v1, ls) (by repeat (first | exact Sub.nil _ | refine Sub.cons rfl ?_)) ⟨hx1, Nat.zero_le _, hv1, hi, rfl⟩ ?_)
  rintro ⟨k, s, cur⟩ W ⟨hx, hk, hs, hic, he⟩
  simp only at hk hs hic he ⊢
  have huW := hu.to hx
  refine rn ?_
  first | refine G.condD rfl (fun hc => ?_) (fun hc => ?_) | refine G.condN rfl (fun hc => ?_) (fun hc => ?_) | refine G.cond rfl (fun hc => ?_) (fun hc => ?_)
  · have hlt : k < rs.length := by omega
    have hget : (rs.map relC2)[k]? = some (relC2 rs[k]) := by simp [hlt]
    have hmem : rs[k] ∈ rs := List.getElem_mem hlt
    have hdr : rs.drop k = rs[k] :: rs.drop (k + 1) := List.drop_eq_getElem_cons hlt
    generalize rs[k] = p at hget hmem hdr
    obtain ⟨hsr, hsz, hok⟩ := hsr p hmem
    rw [hdr, List.map_cons] at he
    try (first | refine gl tb ?_ | refine gg tb ?_ | refine ll tb ?_ | refine lg tb ?_); repeat ((first | refine G.condT rfl ?_ | refine G.condF rfl ?_ | refine sFa tb ?_ | refine sLd tb ?_ | refine sLa tb ?_ | refine sLen tb ?_ | refine sFd tb ?_ | refine sBd tb ?_ | refine sIa tb k ?_); try (first | refine gl tb ?_ | refine gg tb ?_ | refine ll tb ?_ | refine lg tb ?_))
    refine sAl tb ?_
    intro W2 hb2 hs2 hx2
    refine sSt tb ?_ (vs := relC2 p) (hv := rfl) (hb := hb2) (h1 := relC_one hsr)
    intro W3 hb3 hw3
    have hx3 : Ext W W3 := Below.wr hx2 hw3 (Nat.le_refl _)
    have hx03 := hx.trans hx3
    refine rn ?_
    refine sCall c29 (right_okR p.2 p.1 W3 (hsr.to hx03) hsz (hT.to hx03)) ?_
    rintro _ W4 ⟨rfl, hx4⟩
    have hx04 := hx03.trans hx4
    have hb4 := hb3.to hx4
    refine rn ?_
    first | refine G.condD rfl (fun hc => ?_) (fun hc => ?_) | refine G.condN rfl (fun hc => ?_) (fun hc => ?_) | refine G.cond rfl (fun hc => ?_) (fun hc => ?_)
    · have hr : ¬ rightR p.1 = true := by
        intro h; rw [h] at hc; cases hc
      rw [relF, if_neg hr] at he
      refine rn ?_
      refine sAd tb ?_
      refine rn ?_
      exact G.lp (x := (k, s, cur)) (k + 1, s, cur) (by repeat (first | exact Sub.nil _ | refine Sub.cons rfl ?_)) ⟨hx04, by simp only; omega, hs.to ((hx3.trans hx4)), hic, he⟩ (by simp only; omega)
    · have hr : rightR p.1 = true := by
        rcases h : rightR p.1 with _ | _
        · rw [h] at hc; cases hc
        · rfl
      rw [relF, if_pos hr] at he
      obtain ⟨hret, hinv⟩ := hok W4 s cur hr hx04 hic (hs.to (hx3.trans hx4)).sli
      refine rn ?_
      refine sCall c71 (hret) ?_
      rintro _ W5 ⟨u, rfl, hu5, hx5⟩
      have hx05 := hx04.trans hx5
      refine rn ?_
      first | refine G.condD rfl (fun hc => ?_) (fun hc => ?_) | refine G.condN rfl (fun hc => ?_) (fun hc => ?_) | refine G.cond rfl (fun hc => ?_) (fun hc => ?_)
      · have h2 : ¬ (F p.1 cur).2 = true := by
          intro h; rw [h] at hc; cases hc
        rw [if_neg h2] at he
        have h3 : (F p.1 cur).2 = false := by simpa using h2
        refine rn ?_
        refine G.ret2 rfl rfl rfl rfl rfl ?_
        rw [he]
        exact ⟨_, by rw [h3], Owns.nil _ _ _ _, hx05⟩
      · have h2 : (F p.1 cur).2 = true := by
          rcases h : (F p.1 cur).2 with _ | _
          · rw [h] at hc; cases hc
          · rfl
        rw [if_pos h2] at he
        refine rn ?_
        refine sAd tb ?_
        refine rn ?_
        refine G.lp (x := (k, s, cur)) (k + 1, u, (F p.1 cur).1) ?_ ⟨hx05, by simp only; omega, hu5.lo (hs.to (hx3.trans hx4)) hx04.size hx5, hinv h2, he⟩ (by simp only; omega)
        rw [h2]
        exact (by repeat (first | exact Sub.nil _ | refine Sub.cons rfl ?_))
  · obtain rfl : k = rs.length := by omega
    rw [List.drop_length] at he
    refine rn ?_
    refine G.ret2 rfl rfl rfl rfl rfl ?_
    rw [he]
    exact ⟨_, rfl, hs, hx⟩
end Go.Proofs.YtmkckngecjpklaaGreatDoor
end
section
namespace Go.Sc
/-- how far a time is behind the last one of a target -/
def back (t o i : Int) : Int := (t - o) % i
theorem back_eq {t o i : Int} (hi : 0 < i) (h0 : 0 ≤ o) (h1 : o < i) : back t o i = if t % i - o < 0 then t % i - o + i else t % i - o := by
  have e1 := Int.emod_nonneg t (show i ≠ 0 by omega)
  have e2 := Int.emod_lt_of_pos t hi
  have e3 : (t - o) % i = (t % i - o) % i := by rw [Int.sub_emod t o i, Int.sub_emod (t % i) o i, Int.emod_emod]
  unfold back
  rw [e3]
  split
  · rw [← Int.add_emod_right, Int.emod_eq_of_lt (by omega) (by omega)]
  · rw [Int.emod_eq_of_lt (by omega) (by omega)]
theorem back_bd {t o i : Int} (hi : 0 < i) : 0 ≤ back t o i ∧ back t o i < i := ⟨Int.emod_nonneg _ (by omega), Int.emod_lt_of_pos _ hi⟩
/-- P12.4: when a target is due last in a time -/
def due (o i frm to_ : Int) : Option Int :=
  if i < 1 ∨ o < 0 ∨ i ≤ o ∨ to_ ≤ frm then none
  else if to_ < -9223372036854775808 + back to_ o i ∨ to_ - back to_ o i ≤ frm then none else some (to_ - back to_ o i)
end Go.Sc
end
section
open Go Go.Vg Go.RowKit Go.Proofs Go.Proofs.YtmkckngecjpklaaGreatDoor
namespace Go.Proofs.YtmkckngecjpklaaGreatDoor
set_option linter.unusedSimpArgs false

abbrev I64 (n : Int) : Prop := -9223372036854775808 ≤ n ∧ n ≤ 9223372036854775807
theorem tmod_or {t i : Int} (hi : 0 < i) : t.tmod i = t % i ∨ t.tmod i = t % i - i := by
  have e := Int.tmod_eq_emod (a := t) (b := i)
  split at e
  · left; simpa using e
  · right; omega
theorem tmod_eq {t i : Int} (hi : 0 < i) : (if t.tmod i < 0 then t.tmod i + i else t.tmod i) = t % i := by
  have h1 := Int.emod_nonneg t (show i ≠ 0 by omega)
  have h2 := Int.emod_lt_of_pos t hi
  have h3 := tmod_or (t := t) hi
  split <;> omega
theorem tmod_bd {t i : Int} (hi : 0 < i) : -i ≤ t.tmod i ∧ t.tmod i < i := by
  have h1 := Int.emod_nonneg t (show i ≠ 0 by omega)
  have h2 := Int.emod_lt_of_pos t hi
  have h3 := tmod_or (t := t) hi
  omega
theorem below_ok (t o i : Int) (w : World) (hi : 1 ≤ i) (h0 : 0 ≤ o) (h1 : o < i) (hI : i ≤ 9223372036854775807) :
    Ret Tryz.prog 115 ⟨[.int .i64 t, .int .i64 o, .int .i64 i]⟩ w fun r w' => r = .int .i64 (Sc.back t o i) ∧ w' = w := by
  have hbd := tmod_bd (t := t) (i := i) (by omega)
  have heq := tmod_eq (t := t) (i := i) (by omega)
  have hbk := Sc.back_eq (t := t) (o := o) (i := i) (by omega) h0 h1
  have he := Int.emod_nonneg t (show i ≠ 0 by omega)
  have he2 := Int.emod_lt_of_pos t (show 0 < i by omega)
  refine ret_of_G Tryz.func115 rfl Tryz.ntmps115 rfl ?_
  simp only [argEnv]
  refine rn ?_
  refine sRem rfl ?_
  generalize t.tmod i = m at hbd heq
  generalize t % i = n at hbk he he2 heq
  refine rn ?_
  refine (G.join (fun _ : Unit => [(1, none, .int .i64 o), (2, none, .int .i64 i), (7, none, .int .i64 n)]) (fun _ W => W = w) (fun _ W hW => ?_) ?_)
  · subst hW
    refine rn ?_
    refine sAd tb (r := n - o) ?_
    refine rn ?_
    first | refine G.condD rfl (fun hc => ?_) (fun hc => ?_) | refine G.condN rfl (fun hc => ?_) (fun hc => ?_) | refine G.cond rfl (fun hc => ?_) (fun hc => ?_)
    · refine rn ?_
      refine sAd tb (r := n - o + i) ?_
      refine rn ?_
      refine G.ret1 rfl rfl rfl rfl ?_
      exact ⟨by rw [hbk, if_pos (by omega)], rfl⟩
    · refine rn ?_
      refine G.ret1 rfl rfl rfl rfl ?_
      exact ⟨by rw [hbk, if_neg (by omega)], rfl⟩
  · first | refine G.condD rfl (fun hc => ?_) (fun hc => ?_) | refine G.condN rfl (fun hc => ?_) (fun hc => ?_) | refine G.cond rfl (fun hc => ?_) (fun hc => ?_)
    · refine rn ?_
      refine sAd tb (r := n) ?_ (hp := by rw [if_pos hc] at heq; show IntKind.i64.wrap _ = _; rw [wrap_i64 (by omega) (by omega)]; omega)
      refine rn ?_
      exact G.met () (by repeat (first | exact Sub.nil _ | refine Sub.cons rfl ?_)) rfl
    · rw [if_neg hc] at heq
      subst heq
      refine rn ?_
      exact G.met () (by repeat (first | exact Sub.nil _ | refine Sub.cons rfl ?_)) rfl
/-- what is told of a time -/
def dueV (d : Option Int) : Value := .tuple ⟨[.int .i64 (d.getD 0), .bool d.isSome]⟩
/-- a target's cells -/
def tgC (a b c : Value) (o : Int) : List Value := [a, b, c, .int .i64 o]
set_option maxHeartbeats 1000000 in
theorem due_ok (a b c : Value) (o i frm to_ : Int) (w : World) (hi : I64 i) (ht : I64 to_) (hf : I64 frm) :
    Ret Tryz.prog 56 ⟨[.agg ⟨tgC a b c o⟩, .int .i64 i, .int .i64 frm, .int .i64 to_]⟩ w fun r w' => r = dueV (Sc.due o i frm to_) ∧ Ext w w' := by
  obtain ⟨hi1, hi2⟩ := hi
  obtain ⟨ht1, ht2⟩ := ht
  refine ret_of_G Tryz.func56 rfl Tryz.ntmps56 rfl ?_
  simp only [argEnv]
  refine rn ?_
  refine sBox (us := tgC a b c o) (fun W1 hb1 hs1 hx1 => ?_)
  refine rn ?_
  first | refine G.condD rfl (fun hc => ?_) (fun hc => ?_) | refine G.condN rfl (fun hc => ?_) (fun hc => ?_) | refine G.cond rfl (fun hc => ?_) (fun hc => ?_)
  · have hn : Sc.due o i frm to_ = none := by
      unfold Sc.due
      simp only [Bool.or_eq_true, decide_eq_true_eq] at hc
      rw [if_pos (by omega)]
    refine rn ?_
    refine G.ret2 rfl rfl rfl rfl rfl ?_
    exact ⟨by rw [hn]; rfl, hx1⟩
  simp only [Bool.or_eq_false_iff, decide_eq_false_iff_not] at hc
  obtain ⟨⟨⟨c1, c2⟩, c3⟩, c4⟩ := hc
  have hbd := Sc.back_bd (t := to_) (o := o) (i := i) (by omega)
  have hdue : Sc.due o i frm to_ = if to_ < -9223372036854775808 + Sc.back to_ o i ∨ to_ - Sc.back to_ o i ≤ frm then none else some (to_ - Sc.back to_ o i) := by
    unfold Sc.due
    rw [if_neg (by omega)]
  refine rn ?_
  refine sCall c115 (below_ok to_ o i W1 (by omega) (by omega) (by omega) hi2) ?_
  rintro _ W2 ⟨rfl, rfl⟩
  generalize Sc.back to_ o i = m at hbd hdue
  refine rn ?_
  refine sAd tb (r := -9223372036854775808 + m) ?_
  refine rn ?_
  refine sAd tb (r := IntKind.i64.wrap (to_ - m)) ?_ (hp := rfl)
  refine rn ?_
  first | refine G.condD rfl (fun hc => ?_) (fun hc => ?_) | refine G.condN rfl (fun hc => ?_) (fun hc => ?_) | refine G.cond rfl (fun hc => ?_) (fun hc => ?_)
  · have hn : Sc.due o i frm to_ = none := by
      rw [hdue]
      simp only [Bool.or_eq_true, decide_eq_true_eq] at hc
      rw [if_pos]
      rcases hc with h | h
      · exact .inl h
      · by_cases h2 : to_ < -9223372036854775808 + m
        · exact .inl h2
        · rw [wrap_i64 (by omega) (by omega)] at h
          exact .inr h
    refine rn ?_
    refine G.ret2 rfl rfl rfl rfl rfl ?_
    exact ⟨by rw [hn]; rfl, hx1⟩
  · simp only [Bool.or_eq_false_iff, decide_eq_false_iff_not] at hc
    have hw : IntKind.i64.wrap (to_ - m) = to_ - m := wrap_i64 (by omega) (by omega)
    rw [hw] at hc
    rw [hw]
    refine rn ?_
    refine sAd tb (r := to_ - m) ?_
    refine rn ?_
    refine G.ret2 rfl rfl rfl rfl rfl ?_
    exact ⟨by rw [hdue, if_neg (by omega)]; rfl, hx1⟩
end Go.Proofs.YtmkckngecjpklaaGreatDoor
end
section
open Go Go.Vg Go.RowKit Go.Proofs Go.Proofs.YtmkckngecjpklaaGreatDoor
namespace Go.Proofs.YtmkckngecjpklaaGreatDoor.Lab
set_option linter.unusedSimpArgs false

def u8N (n b0 b1 b2 b3 : Nat) : Nat :=
  if b0 < 128 then 1
  else if b0 / 32 = 6 then (if 1 < n ∧ b1 / 64 = 2 ∧ 128 ≤ b0 % 32 * 64 + b1 % 64 then 2 else 0)
  else if b0 / 16 = 14 then (if 2 < n ∧ b1 / 64 = 2 ∧ b2 / 64 = 2 ∧ 2048 ≤ b0 % 16 * 4096 + b1 % 64 * 64 + b2 % 64 ∧ ¬ (55296 ≤ b0 % 16 * 4096 + b1 % 64 * 64 + b2 % 64 ∧ b0 % 16 * 4096 + b1 % 64 * 64 + b2 % 64 ≤ 57343) then 3 else 0)
  else if b0 / 8 = 30 then (if 3 < n ∧ b1 / 64 = 2 ∧ b2 / 64 = 2 ∧ b3 / 64 = 2 ∧ 65536 ≤ b0 % 8 * 262144 + b1 % 64 * 4096 + b2 % 64 * 64 + b3 % 64 ∧ b0 % 8 * 262144 + b1 % 64 * 4096 + b2 % 64 * 64 + b3 % 64 ≤ 1114111 then 4 else 0)
  else 0

theorem u8N_decode (n b0 b1 b2 b3 : Nat) : (u8N n b0 b1 b2 b3 = 0 ∧ Lib.decodeN n b0 b1 b2 b3 = (65533, 1)) ∨ (u8N n b0 b1 b2 b3 ≠ 0 ∧ (Lib.decodeN n b0 b1 b2 b3).2 = u8N n b0 b1 b2 b3 ∧ ¬ ((Lib.decodeN n b0 b1 b2 b3).1 = 65533 ∧ (Lib.decodeN n b0 b1 b2 b3).2 = 1)) := by
  unfold u8N Lib.decodeN
  repeat' split
  all_goals first | (exfalso; omega) | (left; exact ⟨rfl, rfl⟩) | (right; refine ⟨by omega, rfl, ?_⟩; simp only; omega)

theorem byteN (s : List UInt8) (i : Nat) : byteI s i = (((s.getD i 0).toNat : Nat) : Int) := rfl
set_option maxHeartbeats 1000000 in
theorem u8len_N (s : List UInt8) (i : Nat) (hi : i < s.length) : u8len s i = u8N (s.length - i) (s.getD i 0).toNat (s.getD (i + 1) 0).toNat (s.getD (i + 2) 0).toNat (s.getD (i + 3) 0).toNat := by
  have h0 := (s.getD i 0).toNat_lt
  have h1 := (s.getD (i + 1) 0).toNat_lt
  have h2 := (s.getD (i + 2) 0).toNat_lt
  have h3 := (s.getD (i + 3) 0).toNat_lt
  unfold u8len
  rw [byteN]
  have e1 := byteN s (i + 1)
  have e2 := byteN s (i + 2)
  have e3 := byteN s (i + 3)
  generalize (s.getD i 0).toNat = b0 at h0 ⊢
  generalize (s.getD (i + 1) 0).toNat = b1 at h1 e1 ⊢
  generalize (s.getD (i + 2) 0).toNat = b2 at h2 e2 ⊢
  generalize (s.getD (i + 3) 0).toNat = b3 at h3 e3 ⊢
  obtain ⟨n, hn⟩ : ∃ n, n = s.length - i := ⟨_, rfl⟩
  rw [← hn]
  unfold lead
  by_cases c4 : 240 ≤ b0 ∧ b0 < 248
  · rw [if_pos (by omega)]
    simp only [u8n, show (4 - 1 : Nat) = 3 from rfl, contTo, Nat.zero_add, e1, e2, e3]
    unfold u8N badRune
    rw [if_neg (by omega : ¬ b0 < 128), if_neg (by omega : ¬ b0 / 32 = 6), if_neg (by omega : ¬ b0 / 16 = 14), if_pos (by omega : b0 / 8 = 30)]
    by_cases hl : s.length < i + 4
    · rw [if_pos hl, if_neg (by omega)]
    · rw [if_neg hl]
      by_cases k1 : (b1 : Int) < 128 ∨ 192 ≤ (b1 : Int)
      · simp only [k1, if_true]; rw [if_neg (by omega)]
      · simp only [k1, if_false]
        by_cases k2 : (b2 : Int) < 128 ∨ 192 ≤ (b2 : Int)
        · simp only [k2, if_true]; rw [if_neg (by omega)]
        · simp only [k2, if_false]
          by_cases k3 : (b3 : Int) < 128 ∨ 192 ≤ (b3 : Int)
          · simp only [k3, if_true]; rw [if_neg (by omega)]
          · simp only [k3, if_false, Bool.or_eq_true, Bool.and_eq_true, decide_eq_true_eq]
            split <;> split <;> first | rfl | (exfalso; omega)
  · rw [if_neg (by omega)]
    by_cases c3 : 224 ≤ b0 ∧ b0 < 240
    · rw [if_pos (by omega)]
      simp only [u8n, show (3 - 1 : Nat) = 2 from rfl, contTo, Nat.zero_add, e1, e2]
      unfold u8N badRune
      rw [if_neg (by omega : ¬ b0 < 128), if_neg (by omega : ¬ b0 / 32 = 6), if_pos (by omega : b0 / 16 = 14)]
      by_cases hl : s.length < i + 3
      · rw [if_pos hl, if_neg (by omega)]
      · rw [if_neg hl]
        by_cases k1 : (b1 : Int) < 128 ∨ 192 ≤ (b1 : Int)
        · simp only [k1, if_true]; rw [if_neg (by omega)]
        · simp only [k1, if_false]
          by_cases k2 : (b2 : Int) < 128 ∨ 192 ≤ (b2 : Int)
          · simp only [k2, if_true]; rw [if_neg (by omega)]
          · simp only [k2, if_false, Bool.or_eq_true, Bool.and_eq_true, decide_eq_true_eq]
            split <;> split <;> first | rfl | (exfalso; omega)
    · rw [if_neg (by omega)]
      by_cases c2 : 192 ≤ b0 ∧ b0 < 224
      · rw [if_pos (by omega)]
        simp only [u8n, show (2 - 1 : Nat) = 1 from rfl, contTo, Nat.zero_add, e1]
        unfold u8N badRune
        rw [if_neg (by omega : ¬ b0 < 128), if_pos (by omega : b0 / 32 = 6)]
        by_cases hl : s.length < i + 2
        · rw [if_pos hl, if_neg (by omega)]
        · rw [if_neg hl]
          by_cases k1 : (b1 : Int) < 128 ∨ 192 ≤ (b1 : Int)
          · simp only [k1, if_true]; rw [if_neg (by omega)]
          · simp only [k1, if_false, Bool.or_eq_true, Bool.and_eq_true, decide_eq_true_eq]
            split <;> split <;> first | rfl | (exfalso; omega)
      · rw [if_neg (by omega)]
        by_cases c1 : 128 ≤ b0
        · rw [if_pos (by omega)]
          unfold u8N
          rw [if_neg (by omega : ¬ b0 < 128), if_neg (by omega : ¬ b0 / 32 = 6), if_neg (by omega : ¬ b0 / 16 = 14), if_neg (by omega : ¬ b0 / 8 = 30)]
        · rw [if_neg (by omega)]
          simp only [u8n, show (1 - 1 : Nat) = 0 from rfl, contTo]
          unfold u8N badRune
          rw [if_pos (by omega : b0 < 128), if_neg (by omega), if_neg (by simp; omega)]

theorem getD_drop (s : List UInt8) (i k : Nat) : (s.drop i).getD k 0 = s.getD (i + k) 0 := by simp [List.getD]
theorem validGo_D (s : List UInt8) : ∀ (m i : Nat), s.length - i = m → i ≤ s.length → validGo s (s.length - i) i = Lib.validD (s.drop i) := by
  intro m
  induction m using Nat.strongRecOn with
  | _ m ih =>
    intro i hm hi
    by_cases he : i = s.length
    · subst he
      rw [List.drop_length, Lib.validD_nil, validGo_end _ _ _ (Nat.le_refl _)]
    · have hlt : i < s.length := by omega
      have hne : s.drop i ≠ [] := by intro h; rw [List.drop_eq_nil_iff] at h; omega
      rw [Lib.validD_step _ hne, Lib.decodeL_N, getD_drop, getD_drop, getD_drop, getD_drop, List.length_drop, Nat.add_zero]
      have hN := u8len_N s i hlt
      rcases u8N_decode (s.length - i) (s.getD i 0).toNat (s.getD (i + 1) 0).toNat (s.getD (i + 2) 0).toNat (s.getD (i + 3) 0).toNat with ⟨h1, h2⟩ | ⟨h1, h2, h3⟩
      · rw [h1] at hN
        rw [h2, validGo_no hlt hN]; simp
      · rw [← hN] at h1 h2
        have hle := u8len_le s i hi
        rw [if_neg h3, h2, validGo_step hlt h1, ih (s.length - (i + u8len s i)) (by omega) (i + u8len s i) rfl hle, List.drop_drop]
theorem validU_D (s : List UInt8) : validU s = Lib.validD s := by
  have := validGo_D s s.length 0 (by omega) (by omega)
  simpa [validU] using this
end Go.Proofs.YtmkckngecjpklaaGreatDoor.Lab
end
section
open Go Go.Vg Go.RowKit Go.Proofs Go.Proofs.YtmkckngecjpklaaGreatDoor
namespace Go.Proofs.YtmkckngecjpklaaGreatDoor
set_option linter.unusedSimpArgs false
namespace Lab
def keptL (ls : List Lab) : List Lab := ls.filter fun x => !decide (x.2 = [])
def dupAt (d : List Lab) (i : Nat) : Prop := 1 ≤ i ∧ i < d.length ∧ (labAt d i).1 = (labAt d (i - 1)).1
theorem keptL_snoc (ls : List Lab) (x : Lab) : keptL (ls ++ [x]) = if x.2 = [] then keptL ls else keptL ls ++ [x] := by
  by_cases h : x.2 = [] <;> simp [keptL, h]
theorem okB_fair (x : Lab) : okB x = fairB x := by
  unfold okB fairB rightV
  rw [validU_D]
  cases namedB false x.1 <;> cases Lib.validD x.2 <;> by_cases h : (x.2.length : Int) ≤ 1024 <;> simp [h] <;> omega
theorem putL_perm (l : List Lab) (x : Lab) : (putL l x).Perm (l ++ [x]) := by
  unfold putL
  have h := List.takeWhile_append_dropWhile (p := fun y => Op.bytesLess y.1 x.1) (l := l)
  have h1 : (x :: l.dropWhile fun y => Op.bytesLess y.1 x.1).Perm ((l.dropWhile fun y => Op.bytesLess y.1 x.1) ++ [x]) := (List.perm_append_singleton x _).symm
  refine (List.Perm.append_left _ h1).trans ?_
  rw [← List.append_assoc, h]
theorem foldN_perm (ls : List Lab) : (foldN ls).1.Perm (keptL ls) := by
  suffices h : ∀ n, ∀ ls : List Lab, ls.length = n → (foldN ls).1.Perm (keptL ls) from h _ ls rfl
  intro n
  induction n with
  | zero => intro ls h; rw [List.eq_nil_of_length_eq_zero h]; exact List.Perm.refl _
  | succ n ih =>
    intro ls h
    have hne : ls ≠ [] := by intro e; subst e; cases h
    obtain ⟨r, x, rfl⟩ : ∃ r x, ls = r ++ [x] := ⟨ls.dropLast, ls.getLast hne, (List.dropLast_concat_getLast hne).symm⟩
    have hr := ih r (by simpa using h)
    rw [foldN_snoc, keptL_snoc]
    unfold stepN
    by_cases hx : x.2 = []
    · rw [if_pos hx, if_pos hx]; exact hr
    · rw [if_neg hx, if_neg hx]
      exact (putL_perm _ x).trans (List.Perm.append_right _ hr)
theorem putL_sorted {l : List Lab} {x : Lab} (h : sortedL l) : sortedL (putL l x) := by
  have hd := dw_sorted (x := x) h
  have ht := tw_all (l := l) (x := x)
  unfold sortedL putL at *
  have hs := List.takeWhile_append_dropWhile (p := fun y => Op.bytesLess y.1 x.1) (l := l)
  rw [← hs, List.pairwise_append] at h
  rw [List.pairwise_append]
  refine ⟨h.1, List.pairwise_cons.2 ⟨hd, h.2.1⟩, ?_⟩
  intro a ha b hb
  rcases List.mem_cons.1 hb with rfl | hb
  · exact bl_asymm (ht a ha)
  · exact h.2.2 a ha b hb
theorem foldN_sorted (ls : List Lab) : sortedL (foldN ls).1 := by
  suffices h : ∀ (l : List Lab) (s : List Lab × Bool), sortedL s.1 → sortedL (l.foldl stepN s).1 from h ls ([], false) List.Pairwise.nil
  intro l
  induction l with
  | nil => intro s h; exact h
  | cons a r ih =>
    intro s h
    refine ih _ ?_
    unfold stepN
    split
    · exact h
    · exact putL_sorted h
theorem hasL_mem (l : List Lab) (n : List UInt8) : hasL l n = true ↔ n ∈ l.map (·.1) := by
  simp only [hasL, List.any_eq_true, decide_eq_true_eq, List.mem_map]
theorem nodup_snoc {α : Type} {l : List α} {x : α} : (l ++ [x]).Nodup ↔ l.Nodup ∧ x ∉ l := by
  rw [List.nodup_append]
  constructor
  · rintro ⟨h1, _, h3⟩
    exact ⟨h1, fun hx => h3 x hx x (by simp) rfl⟩
  · rintro ⟨h1, h2⟩
    refine ⟨h1, by simp, ?_⟩
    intro a ha b hb
    simp only [List.mem_cons, List.not_mem_nil, or_false] at hb
    subst hb
    rintro rfl; exact h2 ha
theorem foldN_twice (ls : List Lab) : (foldN ls).2 = true ↔ ¬ ((keptL ls).map (·.1)).Nodup := by
  suffices h : ∀ n, ∀ ls : List Lab, ls.length = n → ((foldN ls).2 = true ↔ ¬ ((keptL ls).map (·.1)).Nodup) from h _ ls rfl
  intro n
  induction n with
  | zero => intro ls h; rw [List.eq_nil_of_length_eq_zero h]; simp [foldN, keptL]
  | succ n ih =>
    intro ls h
    have hne : ls ≠ [] := by intro e; subst e; cases h
    obtain ⟨r, x, rfl⟩ : ∃ r x, ls = r ++ [x] := ⟨ls.dropLast, ls.getLast hne, (List.dropLast_concat_getLast hne).symm⟩
    have hr := ih r (by simpa using h)
    rw [foldN_snoc, keptL_snoc]
    unfold stepN
    by_cases hx : x.2 = []
    · rw [if_pos hx, if_pos hx]; exact hr
    · rw [if_neg hx, if_neg hx]
      simp only [Bool.or_eq_true, hr, hasL_mem, List.map_append, List.map_cons, List.map_nil]
      rw [nodup_snoc]
      have hp : x.1 ∈ (foldN r).1.map (·.1) ↔ x.1 ∈ (keptL r).map (·.1) := ((foldN_perm r).map _).mem_iff
      rw [hp]
      constructor
      · rintro (h1 | h1) ⟨h2, h3⟩
        · exact h1 h2
        · exact h3 h1
      · intro h1
        by_cases h2 : ((keptL r).map (·.1)).Nodup
        · by_cases h3 : x.1 ∈ (keptL r).map (·.1)
          · exact .inr h3
          · exact absurd ⟨h2, h3⟩ h1
        · exact .inl h2
/-- the next one is there, and another name -/
theorem dup_iff {d : List Lab} (h : sortedL d) : (∃ i, dupAt d i) ↔ ¬ (d.map (·.1)).Nodup := by
  have at_ : ∀ i (hi : i < d.length), labAt d i = d[i] := fun i hi => by simp [labAt, List.getD, hi]
  constructor
  · rintro ⟨i, h1, h2, h3⟩ hn
    rw [at_ i h2, at_ (i - 1) (by omega)] at h3
    have := List.pairwise_iff_getElem.1 hn (i - 1) i (by simp; omega) (by simpa using h2) (by omega)
    simp only [List.getElem_map] at this
    exact this h3.symm
  · intro hn
    apply Classical.byContradiction
    intro hno
    refine hn ?_
    have adj : ∀ i (hi : i + 1 < d.length), Op.bytesLess d[i].1 d[i + 1].1 = true := by
      intro i hi
      have h1 := List.pairwise_iff_getElem.1 h i (i + 1) (by omega) hi (by omega)
      rcases bl_not h1 with e | e
      · exfalso
        refine hno ⟨i + 1, by omega, hi, ?_⟩
        rw [at_ (i + 1) hi, Nat.add_sub_cancel, at_ i (by omega)]; exact e.symm
      · exact e
    have lt : ∀ k i (hi : i + (k + 1) < d.length), Op.bytesLess d[i].1 d[i + (k + 1)].1 = true := by
      intro k
      induction k with
      | zero => intro i hi; exact adj i hi
      | succ k ih =>
        intro i hi
        exact bl_trans (ih i (by omega)) (adj (i + (k + 1)) hi)
    unfold List.Nodup
    rw [List.pairwise_iff_getElem]
    intro i j hi hj hij e
    simp only [List.length_map] at hi hj
    simp only [List.getElem_map] at e
    have := lt (j - i - 1) i (by omega)
    have ej : i + (j - i - 1 + 1) = j := by omega
    simp only [ej] at this
    rw [e, bl_irrefl] at this; cases this
def okAt (ls : List Lab) (i : Nat) : Bool := !(!fairB (labAt ls i) || decide ((labAt ls i).2 = []) || decide ((0 : Int) < i) && !Op.bytesLess (labAt ls (i - 1)).1 (labAt ls i).1)
def rightTo (ls : List Lab) (n : Nat) : Prop := ∀ i, i < n → okAt ls i = true
instance (ls : List Lab) (n : Nat) : Decidable (rightTo ls n) := by unfold rightTo; infer_instance
def rightB (ls : List Lab) : Bool := decide (rightTo ls ls.length) && decide ((ls.length : Int) ≤ 64)
theorem labAt_mem {ls : List Lab} {k : Nat} (h : k < ls.length) : labAt ls k ∈ ls := by
  simp only [labAt, List.getD, List.getElem?_eq_getElem h, Option.getD_some]; exact List.getElem_mem h
theorem labAt_eq {ls : List Lab} {k : Nat} (h : k < ls.length) : labAt ls k = ls[k] := by simp [labAt, List.getD, h]
theorem newR_right {ls out : List Lab} (h : newR ls = (0, out)) : rightB out = true := by
  unfold newR at h
  split at h
  · rename_i hall
    split at h
    · cases h
    · rename_i htw
      split at h
      · cases h
      · rename_i hlen
        simp only [Prod.mk.injEq, true_and] at h
        subst h
        have hso := foldN_sorted ls
        have hp := foldN_perm ls
        have hnd : ((foldN ls).1.map (·.1)).Nodup := by
          apply Classical.byContradiction
          intro hc
          exact htw ((foldN_twice ls).2 (fun h2 => hc ((hp.map (·.1)).nodup_iff.2 h2)))
        have hno := dup_iff hso
        have hmem : ∀ x ∈ (foldN ls).1, fairB x = true ∧ x.2 ≠ [] := by
          intro x hx
          have hk := hp.mem_iff.1 hx
          simp only [keptL, List.mem_filter, Bool.not_eq_true', decide_eq_false_iff_not] at hk
          exact ⟨List.all_eq_true.1 hall x hk.1, hk.2⟩
        have hr : rightTo (foldN ls).1 (foldN ls).1.length := by
          intro i hi
          have hm := hmem _ (labAt_mem hi)
          unfold okAt
          by_cases h0 : i = 0
          · subst h0; simp [hm.1, hm.2]
          · have hbl : Op.bytesLess (labAt (foldN ls).1 (i - 1)).1 (labAt (foldN ls).1 i).1 = true := by
              rw [labAt_eq hi, labAt_eq (show i - 1 < _ by omega)]
              have h1 := List.pairwise_iff_getElem.1 hso (i - 1) i (by omega) hi (by omega)
              rcases bl_not h1 with e | e
              · exfalso
                refine hno.1 ⟨i, by omega, hi, ?_⟩ hnd
                rw [labAt_eq hi, labAt_eq (show i - 1 < _ by omega)]; exact e.symm
              · exact e
            simp [hm.1, hm.2, hbl]
        simp [rightB, hr]; omega
  · cases h
/-- what a set's labels are like -/
theorem right_fair {ls : List Lab} (h : rightB ls = true) : (∀ x ∈ ls, fairB x = true ∧ x.2 ≠ []) ∧ ls.length ≤ 64 := by
  simp only [rightB, Bool.and_eq_true, decide_eq_true_eq] at h
  refine ⟨fun x hx => ?_, by omega⟩
  obtain ⟨i, hi, rfl⟩ := List.getElem_of_mem hx
  have := h.1 i hi
  unfold okAt at this
  rw [labAt_eq hi] at this
  simp only [Bool.not_eq_true', Bool.or_eq_false_iff, Bool.not_eq_false', decide_eq_false_iff_not] at this
  exact ⟨this.1.1, this.1.2⟩
theorem fair_len {x : Lab} (h : fairB x = true) : x.1.length ≤ 1024 ∧ x.2.length ≤ 1024 := by
  unfold fairB rightV namedB at h
  simp only [Bool.and_eq_true, decide_eq_true_eq] at h
  omega
/-- strictly rising names -/
def riseL (ls : List Lab) : Prop := ls.Pairwise fun x y => Op.bytesLess x.1 y.1 = true
theorem rise_sorted {ls : List Lab} (h : riseL ls) : sortedL ls := List.Pairwise.imp (fun h => bl_asymm h) h
theorem rise_nodup {ls : List Lab} (h : riseL ls) : (ls.map (·.1)).Nodup := by
  rw [List.nodup_iff_pairwise_ne, List.pairwise_map]
  exact List.Pairwise.imp (fun h e => by rw [e, bl_irrefl] at h; cases h) h
theorem right_rise {ls : List Lab} (h : rightB ls = true) : riseL ls := by
  have hs : ∀ i, 0 < i → i < ls.length → Op.bytesLess (labAt ls (i - 1)).1 (labAt ls i).1 = true := by
    intro i h0 hi
    simp only [rightB, Bool.and_eq_true, decide_eq_true_eq] at h
    have h2 : okAt ls i = true := by
      first | exact h.1 i hi | exact h.2 i hi
    unfold okAt at h2
    have h3 : ¬ i = 0 := by omega
    have h4 : (fairB (labAt ls i) = true ∧ ¬(labAt ls i).snd = []) ∧ Op.bytesLess (labAt ls (i - 1)).fst (labAt ls i).fst = true := by simpa [h3] using h2
    exact h4.2
  unfold riseL
  rw [List.pairwise_iff_getElem]
  intro i j hi hj hij
  have key : ∀ d i, ∀ (_ : i < ls.length) (h2 : i + d + 1 < ls.length), Op.bytesLess (labAt ls i).1 (labAt ls (i + d + 1)).1 = true := by
    intro d
    induction d with
    | zero => intro i _ h2; exact hs (i + 1) (by omega) h2
    | succ d ih =>
      intro i h1 h2
      exact bl_trans (ih i h1 (by omega)) (hs (i + (d + 1) + 1) (by omega) h2)
  have := key (j - i - 1) i hi (by omega)
  rw [show i + (j - i - 1) + 1 = j by omega, labAt_eq hi, labAt_eq hj] at this
  exact this
theorem rise_right {ls : List Lab} (hm : ∀ x ∈ ls, fairB x = true ∧ x.2 ≠ []) (hr : riseL ls) (hl : ls.length ≤ 64) : rightB ls = true := by
  have hr : rightTo ls ls.length := by
    intro i hi
    have hm := hm _ (labAt_mem hi)
    unfold okAt
    by_cases h0 : i = 0
    · subst h0; simp [hm.1, hm.2]
    · have hbl : Op.bytesLess (labAt ls (i - 1)).1 (labAt ls i).1 = true := by
        rw [labAt_eq hi, labAt_eq (show i - 1 < _ by omega)]
        exact List.pairwise_iff_getElem.1 hr (i - 1) i (by omega) hi (by omega)
      simp [hm.1, hm.2, hbl]
  simp [rightB, hr]; omega
theorem right_pick {ls : List Lab} (h : rightB ls = true) (ns : List (List UInt8)) (b : Bool) : rightB (pickL ls ns b) = true := by
  obtain ⟨h1, h2⟩ := right_fair h
  refine rise_right (fun x hx => h1 x ((List.mem_filter.1 hx).1)) (List.Pairwise.sublist List.filter_sublist (right_rise h)) ?_
  have := pickL_len ls ns b
  omega
theorem get_none {ls : List Lab} {name : List UInt8} (h : ¬ name ∈ ls.map (·.1)) : getL ls name = [] := by
  induction ls with
  | nil => rfl
  | cons x r ih =>
    simp only [List.map_cons, List.mem_cons, not_or] at h
    simp only [getL]
    rw [if_neg (fun e => h.1 e.symm)]
    exact ih h.2
end Lab
end Go.Proofs.YtmkckngecjpklaaGreatDoor
end
